/- A digest of eight words; the chapter's example. -/
import Derived.Test.YtbnbncnmhhioeaaDoorOf
import Derived.Lib.SlBytesConst
namespace Go.Proofs.YtbnbncnmhhioeaaDoor.By
open Go.RowKit Go.Proofs.YtbnbncnmhhioeaaDoor.Reg Go.Proofs.YtbnbncnmhhioeaaDoorW.PrintWords Go.Proofs.YtbnbncnmhhioeaaDoorW.PrintLast Go.Proofs.YtbnbncnmhhioeaaDoorW.PrintMore
set_option linter.unusedVariables false

theorem cell_of_cells {w : World} {b : Nat} {cs : Array Value} {t : TypeId} {fr : Nat × Nat} (h : w.heap[b]? = some (.cells cs t fr)) (j : Nat) : w.cell? ⟨b, j, none⟩ = cs[j]? := by
  simp [World.cell?, h]
theorem C_of_cells {k : IntKind} {w : World} {b : Nat} {l : List Int} (h : ∀ j p, l[j]? = some p → w.cell? ⟨b, j, none⟩ = some (.int k p)) (hl : l.length ≤ 1000000) : Kd.C (Kd.int k) w (some ⟨b, 0, none⟩) l.length l :=
  ⟨rfl, by omega, fun _ => ⟨⟨b, 0, none⟩, rfl, fun j p hj => ⟨[.int k p], rfl, rfl, fun i u hu => by
    have hi : i = 0 := by have := (List.getElem?_eq_some_iff.1 hu).1; simpa using this
    subst hi
    rw [show u = .int k p from (Option.some.inj hu).symm]
    have e : (⟨b, 0, none⟩ : Addr).add (j * (Kd.int k).sz + 0) = ⟨b, j, none⟩ := by
      show (⟨b, 0, none⟩ : Addr).add (j * 1 + 0) = _
      rw [Nat.mul_one, Nat.add_zero]; unfold Addr.add; split
      · rename_i h; rw [h]
      · simp
    rw [e]
    exact h j p hj⟩⟩⟩
theorem ku_stays {w w' : World} {A : Option Addr} {n : Nat} {xs : List Int} (h : Kd.C ku w A n xs) (hs : ∀ a, A = some a → w'.heap[a.block]? = w.heap[a.block]?) : Kd.C ku w' A n xs := by
  refine ⟨h.1, h.2.1, fun hp => ?_⟩
  obtain ⟨ad, e, hc⟩ := h.2.2 hp
  refine ⟨ad, e, fun j p hj => ?_⟩
  obtain ⟨cs, h1, h2, h3⟩ := hc j p hj
  refine ⟨cs, h1, h2, fun i u hu => ?_⟩
  rw [← h3 i u hu]
  show World.cell? w' _ = World.cell? w _
  unfold World.cell?
  have hk : ∀ m, (ad.add m).block = ad.block := fun m => by unfold Addr.add; split <;> rfl
  rw [hk, hs ad e]
theorem C_of_blk {k : IntKind} {w : World} {b : Nat} {l : List Int} {t : TypeId} (h : Blk w b (nums k l).toArray t) (hl : l.length ≤ 1000000) : Kd.C (Kd.int k) w (some ⟨b, 0, none⟩) l.length l :=
  C_of_cells (fun j p hj => h.cell j (by rw [List.getElem?_toArray]; simp [nums, hj])) hl
set_option maxRecDepth 100000 in
set_option maxHeartbeats 8000000 in
theorem sum_calls (w : World) (SF : S8) :
    Calls Tryd.prog 24 #[.int .u32 SF.a, .int .u32 SF.b, .int .u32 SF.c, .int .u32 SF.d, .int .u32 SF.e, .int .u32 SF.f, .int .u32 SF.g, .int .u32 SF.h] w fun e w' => e = .returned (sumV (digest SF)) ∧ Ext w w' := by
  have hs1 : (w.alloc (.cells #[Value.int .u8 0, Value.int .u8 0, Value.int .u8 0, Value.int .u8 0, Value.int .u8 0, Value.int .u8 0, Value.int .u8 0, Value.int .u8 0, Value.int .u8 0, Value.int .u8 0, Value.int .u8 0, Value.int .u8 0, Value.int .u8 0, Value.int .u8 0, Value.int .u8 0, Value.int .u8 0, Value.int .u8 0, Value.int .u8 0, Value.int .u8 0, Value.int .u8 0, Value.int .u8 0, Value.int .u8 0, Value.int .u8 0, Value.int .u8 0, Value.int .u8 0, Value.int .u8 0, Value.int .u8 0, Value.int .u8 0, Value.int .u8 0, Value.int .u8 0, Value.int .u8 0, Value.int .u8 0] 26)).heap.size = w.heap.size + 1 := size_alloc _ _
  have hs2 : ((w.alloc (.cells #[Value.int .u8 0, Value.int .u8 0, Value.int .u8 0, Value.int .u8 0, Value.int .u8 0, Value.int .u8 0, Value.int .u8 0, Value.int .u8 0, Value.int .u8 0, Value.int .u8 0, Value.int .u8 0, Value.int .u8 0, Value.int .u8 0, Value.int .u8 0, Value.int .u8 0, Value.int .u8 0, Value.int .u8 0, Value.int .u8 0, Value.int .u8 0, Value.int .u8 0, Value.int .u8 0, Value.int .u8 0, Value.int .u8 0, Value.int .u8 0, Value.int .u8 0, Value.int .u8 0, Value.int .u8 0, Value.int .u8 0, Value.int .u8 0, Value.int .u8 0, Value.int .u8 0, Value.int .u8 0] 26)).alloc (.cells #[Value.int .u32 SF.a, Value.int .u32 SF.b, Value.int .u32 SF.c, Value.int .u32 SF.d, Value.int .u32 SF.e, Value.int .u32 SF.f, Value.int .u32 SF.g, Value.int .u32 SF.h] 39)).heap.size = w.heap.size + 1 + 1 := by rw [size_alloc, hs1]
  have hk2 := Blk.new (w.alloc (.cells #[Value.int .u8 0, Value.int .u8 0, Value.int .u8 0, Value.int .u8 0, Value.int .u8 0, Value.int .u8 0, Value.int .u8 0, Value.int .u8 0, Value.int .u8 0, Value.int .u8 0, Value.int .u8 0, Value.int .u8 0, Value.int .u8 0, Value.int .u8 0, Value.int .u8 0, Value.int .u8 0, Value.int .u8 0, Value.int .u8 0, Value.int .u8 0, Value.int .u8 0, Value.int .u8 0, Value.int .u8 0, Value.int .u8 0, Value.int .u8 0, Value.int .u8 0, Value.int .u8 0, Value.int .u8 0, Value.int .u8 0, Value.int .u8 0, Value.int .u8 0, Value.int .u8 0, Value.int .u8 0] 26)) #[Value.int .u32 SF.a, Value.int .u32 SF.b, Value.int .u32 SF.c, Value.int .u32 SF.d, Value.int .u32 SF.e, Value.int .u32 SF.f, Value.int .u32 SF.g, Value.int .u32 SF.h] 39
  rw [hs1] at hk2
  have HK2 := Aside0.mk (show Blk ((w.alloc (.cells #[Value.int .u8 0, Value.int .u8 0, Value.int .u8 0, Value.int .u8 0, Value.int .u8 0, Value.int .u8 0, Value.int .u8 0, Value.int .u8 0, Value.int .u8 0, Value.int .u8 0, Value.int .u8 0, Value.int .u8 0, Value.int .u8 0, Value.int .u8 0, Value.int .u8 0, Value.int .u8 0, Value.int .u8 0, Value.int .u8 0, Value.int .u8 0, Value.int .u8 0, Value.int .u8 0, Value.int .u8 0, Value.int .u8 0, Value.int .u8 0, Value.int .u8 0, Value.int .u8 0, Value.int .u8 0, Value.int .u8 0, Value.int .u8 0, Value.int .u8 0, Value.int .u8 0, Value.int .u8 0] 26)).alloc (.cells #[Value.int .u32 SF.a, Value.int .u32 SF.b, Value.int .u32 SF.c, Value.int .u32 SF.d, Value.int .u32 SF.e, Value.int .u32 SF.f, Value.int .u32 SF.g, Value.int .u32 SF.h] 39)) (w.heap.size + 1) (nums .u32 SF.l).toArray 39 from hk2)
  have HKR := Aside0.mk (show Blk (((w.alloc (.cells #[Value.int .u8 0, Value.int .u8 0, Value.int .u8 0, Value.int .u8 0, Value.int .u8 0, Value.int .u8 0, Value.int .u8 0, Value.int .u8 0, Value.int .u8 0, Value.int .u8 0, Value.int .u8 0, Value.int .u8 0, Value.int .u8 0, Value.int .u8 0, Value.int .u8 0, Value.int .u8 0, Value.int .u8 0, Value.int .u8 0, Value.int .u8 0, Value.int .u8 0, Value.int .u8 0, Value.int .u8 0, Value.int .u8 0, Value.int .u8 0, Value.int .u8 0, Value.int .u8 0, Value.int .u8 0, Value.int .u8 0, Value.int .u8 0, Value.int .u8 0, Value.int .u8 0, Value.int .u8 0] 26)).alloc (.cells #[Value.int .u32 SF.a, Value.int .u32 SF.b, Value.int .u32 SF.c, Value.int .u32 SF.d, Value.int .u32 SF.e, Value.int .u32 SF.f, Value.int .u32 SF.g, Value.int .u32 SF.h] 39)).alloc (.cells #[Value.int .u8 0, Value.int .u8 0, Value.int .u8 0, Value.int .u8 0, Value.int .u8 0, Value.int .u8 0, Value.int .u8 0, Value.int .u8 0, Value.int .u8 0, Value.int .u8 0, Value.int .u8 0, Value.int .u8 0, Value.int .u8 0, Value.int .u8 0, Value.int .u8 0, Value.int .u8 0, Value.int .u8 0, Value.int .u8 0, Value.int .u8 0, Value.int .u8 0, Value.int .u8 0, Value.int .u8 0, Value.int .u8 0, Value.int .u8 0, Value.int .u8 0, Value.int .u8 0, Value.int .u8 0, Value.int .u8 0, Value.int .u8 0, Value.int .u8 0, Value.int .u8 0, Value.int .u8 0] 26)) w.heap.size (nums .u8 zs).toArray 26 from ((Blk.new w _ 26).alloc _).alloc _)
  have hk3 := Blk.new ((w.alloc (.cells #[Value.int .u8 0, Value.int .u8 0, Value.int .u8 0, Value.int .u8 0, Value.int .u8 0, Value.int .u8 0, Value.int .u8 0, Value.int .u8 0, Value.int .u8 0, Value.int .u8 0, Value.int .u8 0, Value.int .u8 0, Value.int .u8 0, Value.int .u8 0, Value.int .u8 0, Value.int .u8 0, Value.int .u8 0, Value.int .u8 0, Value.int .u8 0, Value.int .u8 0, Value.int .u8 0, Value.int .u8 0, Value.int .u8 0, Value.int .u8 0, Value.int .u8 0, Value.int .u8 0, Value.int .u8 0, Value.int .u8 0, Value.int .u8 0, Value.int .u8 0, Value.int .u8 0, Value.int .u8 0] 26)).alloc (.cells #[Value.int .u32 SF.a, Value.int .u32 SF.b, Value.int .u32 SF.c, Value.int .u32 SF.d, Value.int .u32 SF.e, Value.int .u32 SF.f, Value.int .u32 SF.g, Value.int .u32 SF.h] 39)) #[Value.int .u8 0, Value.int .u8 0, Value.int .u8 0, Value.int .u8 0, Value.int .u8 0, Value.int .u8 0, Value.int .u8 0, Value.int .u8 0, Value.int .u8 0, Value.int .u8 0, Value.int .u8 0, Value.int .u8 0, Value.int .u8 0, Value.int .u8 0, Value.int .u8 0, Value.int .u8 0, Value.int .u8 0, Value.int .u8 0, Value.int .u8 0, Value.int .u8 0, Value.int .u8 0, Value.int .u8 0, Value.int .u8 0, Value.int .u8 0, Value.int .u8 0, Value.int .u8 0, Value.int .u8 0, Value.int .u8 0, Value.int .u8 0, Value.int .u8 0, Value.int .u8 0, Value.int .u8 0] 26
  rw [hs2] at hk3
  have HB7 := Aside0.mk (show Blk (((w.alloc (.cells #[Value.int .u8 0, Value.int .u8 0, Value.int .u8 0, Value.int .u8 0, Value.int .u8 0, Value.int .u8 0, Value.int .u8 0, Value.int .u8 0, Value.int .u8 0, Value.int .u8 0, Value.int .u8 0, Value.int .u8 0, Value.int .u8 0, Value.int .u8 0, Value.int .u8 0, Value.int .u8 0, Value.int .u8 0, Value.int .u8 0, Value.int .u8 0, Value.int .u8 0, Value.int .u8 0, Value.int .u8 0, Value.int .u8 0, Value.int .u8 0, Value.int .u8 0, Value.int .u8 0, Value.int .u8 0, Value.int .u8 0, Value.int .u8 0, Value.int .u8 0, Value.int .u8 0, Value.int .u8 0] 26)).alloc (.cells #[Value.int .u32 SF.a, Value.int .u32 SF.b, Value.int .u32 SF.c, Value.int .u32 SF.d, Value.int .u32 SF.e, Value.int .u32 SF.f, Value.int .u32 SF.g, Value.int .u32 SF.h] 39)).alloc (.cells #[Value.int .u8 0, Value.int .u8 0, Value.int .u8 0, Value.int .u8 0, Value.int .u8 0, Value.int .u8 0, Value.int .u8 0, Value.int .u8 0, Value.int .u8 0, Value.int .u8 0, Value.int .u8 0, Value.int .u8 0, Value.int .u8 0, Value.int .u8 0, Value.int .u8 0, Value.int .u8 0, Value.int .u8 0, Value.int .u8 0, Value.int .u8 0, Value.int .u8 0, Value.int .u8 0, Value.int .u8 0, Value.int .u8 0, Value.int .u8 0, Value.int .u8 0, Value.int .u8 0, Value.int .u8 0, Value.int .u8 0, Value.int .u8 0, Value.int .u8 0, Value.int .u8 0, Value.int .u8 0] 26)) (w.heap.size + 1 + 1) (nums .u8 (upto 32 (outA SF 0))).toArray 26 from hk3)
  have HE3 := Aside0.mk ((((Ext.refl w).alloc (.cells #[Value.int .u8 0, Value.int .u8 0, Value.int .u8 0, Value.int .u8 0, Value.int .u8 0, Value.int .u8 0, Value.int .u8 0, Value.int .u8 0, Value.int .u8 0, Value.int .u8 0, Value.int .u8 0, Value.int .u8 0, Value.int .u8 0, Value.int .u8 0, Value.int .u8 0, Value.int .u8 0, Value.int .u8 0, Value.int .u8 0, Value.int .u8 0, Value.int .u8 0, Value.int .u8 0, Value.int .u8 0, Value.int .u8 0, Value.int .u8 0, Value.int .u8 0, Value.int .u8 0, Value.int .u8 0, Value.int .u8 0, Value.int .u8 0, Value.int .u8 0, Value.int .u8 0, Value.int .u8 0] 26)).alloc (.cells #[Value.int .u32 SF.a, Value.int .u32 SF.b, Value.int .u32 SF.c, Value.int .u32 SF.d, Value.int .u32 SF.e, Value.int .u32 SF.f, Value.int .u32 SF.g, Value.int .u32 SF.h] 39)).alloc (.cells #[Value.int .u8 0, Value.int .u8 0, Value.int .u8 0, Value.int .u8 0, Value.int .u8 0, Value.int .u8 0, Value.int .u8 0, Value.int .u8 0, Value.int .u8 0, Value.int .u8 0, Value.int .u8 0, Value.int .u8 0, Value.int .u8 0, Value.int .u8 0, Value.int .u8 0, Value.int .u8 0, Value.int .u8 0, Value.int .u8 0, Value.int .u8 0, Value.int .u8 0, Value.int .u8 0, Value.int .u8 0, Value.int .u8 0, Value.int .u8 0, Value.int .u8 0, Value.int .u8 0, Value.int .u8 0, Value.int .u8 0, Value.int .u8 0, Value.int .u8 0, Value.int .u8 0, Value.int .u8 0] 26))
  have HCS := Aside0.mk (show Kd.C ku (((w.alloc (.cells #[Value.int .u8 0, Value.int .u8 0, Value.int .u8 0, Value.int .u8 0, Value.int .u8 0, Value.int .u8 0, Value.int .u8 0, Value.int .u8 0, Value.int .u8 0, Value.int .u8 0, Value.int .u8 0, Value.int .u8 0, Value.int .u8 0, Value.int .u8 0, Value.int .u8 0, Value.int .u8 0, Value.int .u8 0, Value.int .u8 0, Value.int .u8 0, Value.int .u8 0, Value.int .u8 0, Value.int .u8 0, Value.int .u8 0, Value.int .u8 0, Value.int .u8 0, Value.int .u8 0, Value.int .u8 0, Value.int .u8 0, Value.int .u8 0, Value.int .u8 0, Value.int .u8 0, Value.int .u8 0] 26)).alloc (.cells #[Value.int .u32 SF.a, Value.int .u32 SF.b, Value.int .u32 SF.c, Value.int .u32 SF.d, Value.int .u32 SF.e, Value.int .u32 SF.f, Value.int .u32 SF.g, Value.int .u32 SF.h] 39)).alloc (.cells #[Value.int .u8 0, Value.int .u8 0, Value.int .u8 0, Value.int .u8 0, Value.int .u8 0, Value.int .u8 0, Value.int .u8 0, Value.int .u8 0, Value.int .u8 0, Value.int .u8 0, Value.int .u8 0, Value.int .u8 0, Value.int .u8 0, Value.int .u8 0, Value.int .u8 0, Value.int .u8 0, Value.int .u8 0, Value.int .u8 0, Value.int .u8 0, Value.int .u8 0, Value.int .u8 0, Value.int .u8 0, Value.int .u8 0, Value.int .u8 0, Value.int .u8 0, Value.int .u8 0, Value.int .u8 0, Value.int .u8 0, Value.int .u8 0, Value.int .u8 0, Value.int .u8 0, Value.int .u8 0] 26)) (some ⟨w.heap.size + 1, 0, none⟩) 8 SF.l from C_of_blk (HK2.out.alloc _) (by show 8 ≤ 1000000; decide))
  clear hs1 hk2 hk3 HK2 hs2
  go_enter Tryd.func24, Tryd.ntmps24
  go_wp2_with fail
  obtain ⟨wz, hwz⟩ : ∃ wz, wz = (((w.alloc (.cells #[Value.int .u8 0, Value.int .u8 0, Value.int .u8 0, Value.int .u8 0, Value.int .u8 0, Value.int .u8 0, Value.int .u8 0, Value.int .u8 0, Value.int .u8 0, Value.int .u8 0, Value.int .u8 0, Value.int .u8 0, Value.int .u8 0, Value.int .u8 0, Value.int .u8 0, Value.int .u8 0, Value.int .u8 0, Value.int .u8 0, Value.int .u8 0, Value.int .u8 0, Value.int .u8 0, Value.int .u8 0, Value.int .u8 0, Value.int .u8 0, Value.int .u8 0, Value.int .u8 0, Value.int .u8 0, Value.int .u8 0, Value.int .u8 0, Value.int .u8 0, Value.int .u8 0, Value.int .u8 0] 26)).alloc (.cells #[Value.int .u32 SF.a, Value.int .u32 SF.b, Value.int .u32 SF.c, Value.int .u32 SF.d, Value.int .u32 SF.e, Value.int .u32 SF.f, Value.int .u32 SF.g, Value.int .u32 SF.h] 39)).alloc (.cells #[Value.int .u8 0, Value.int .u8 0, Value.int .u8 0, Value.int .u8 0, Value.int .u8 0, Value.int .u8 0, Value.int .u8 0, Value.int .u8 0, Value.int .u8 0, Value.int .u8 0, Value.int .u8 0, Value.int .u8 0, Value.int .u8 0, Value.int .u8 0, Value.int .u8 0, Value.int .u8 0, Value.int .u8 0, Value.int .u8 0, Value.int .u8 0, Value.int .u8 0, Value.int .u8 0, Value.int .u8 0, Value.int .u8 0, Value.int .u8 0, Value.int .u8 0, Value.int .u8 0, Value.int .u8 0, Value.int .u8 0, Value.int .u8 0, Value.int .u8 0, Value.int .u8 0, Value.int .u8 0] 26)) := ⟨_, rfl⟩
  have HW := Aside0.mk (show w.heap.size + 1 + 1 < wz.heap.size by rw [hwz]; exact HB7.out.lt)
  rw [← hwz] at HKR HB7 HE3 HCS
  rw [← hwz]
  have HEZ := Aside0.mk (Ext.refl wz)
  clear hwz
  go_loopw [19] (fun i wr => ∃ x : Int, i = .int .i64 x ∧ Aside0 (0 ≤ x ∧ x ≤ 32) ∧ Aside0 (Blk wr (w.heap.size + 1 + 1) (nums .u8 (upto 32 (outA SF x.toNat))).toArray 26) ∧ Aside0 (Ext w wr) ∧ Aside0 (Blk wr w.heap.size (nums .u8 zs).toArray 26) ∧ Aside0 (Kd.C ku wr (some ⟨w.heap.size + 1, 0, none⟩) 8 SF.l)) (fun i _ => 32 - (intOf i).toNat)
  case atStart => exact ⟨0, rfl, ⟨by decide⟩, HB7, HE3, HKR, HCS⟩
  case round =>
    clear HB7 HE3 HKR HCS
    obtain ⟨x, rfl, HXX2, HB7, HE3, HKR, HCS⟩ := hrel
    obtain ⟨g0, g1⟩ := HXX2.out
    obtain ⟨wv, hwv⟩ : ∃ wv : World, wv = wr := ⟨_, rfl⟩
    subst hwv
    by_cases hlt : x < 32
    · have HLT := Aside0.mk hlt
      have hd0 : 0 ≤ x / 4 := by omega
      have hd1 : x / 4 < 8 := by omega
      obtain ⟨adx, eax, hcell⟩ := at_k HCS.out (x / 4) hd0 (by omega)
      have eax' := Option.some.inj eax
      subst eax'
      have hcell' : wv.cell? ⟨w.heap.size + 1, (x / 4).toNat, none⟩ = some (.int .u32 (rd SF.l (x / 4))) := by
        have e : (⟨w.heap.size + 1, 0, none⟩ : Addr).add (x / 4).toNat = ⟨w.heap.size + 1, (x / 4).toNat, none⟩ := by
          unfold Addr.add; split
          · rename_i h; rw [h]
          · simp
        rw [e] at hcell; exact hcell
      clear hcell eax
      have hr0 : 0 ≤ x % 4 := by omega
      have hr1 : x % 4 < 4 := by omega
      obtain ⟨v0, hv0⟩ := upto_there 32 (outA SF x.toNat) x.toNat .u8 (by omega) (by rw [outA_length]; omega)
      have hcl := HB7.out.cell x.toNat hv0
      have hfr := HB7.out.free x.toNat
      have hst := HB7.out.set x.toNat (.int .u8 (outB SF x))
      have hset := upto_set 32 (outA SF x.toNat) (outB SF x) .u8 (by rw [outA_length]; omega)
      rw [outA_length, show outA SF x.toNat ++ [outB SF x] = outA SF (x + 1).toNat by rw [show (x + 1).toNat = x.toNat + 1 by omega, outA, Int.toNat_of_nonneg g0]] at hset
      rw [hset, outB_eq SF x g0] at hst
      have HST := Aside0.mk hst
      have hw := Wrote.setCell wv (w.heap.size + 1 + 1) x.toNat (.int .u8 (rd SF.l (x / 4) / 2 ^ (24 - 8 * (x % 4)).toNat % 256))
      have HE3' := Aside0.mk (hw.ext HE3.out (by omega))
      have HKR' := Aside0.mk (HKR.out.wrote hw (by omega))
      have HCS' := Aside0.mk (ku_stays HCS.out (fun a ha => hw.block _ (by rw [← Option.some.inj ha]; show w.heap.size + 1 ≠ w.heap.size + 1 + 1; omega)))
      clear hv0 hst hset hw HB7 HE3 HKR HCS
      go_wp2_with fail
      go_roundw
      case rel => exact ⟨x + 1, rfl, ⟨by omega, by omega⟩, HST, HE3', HKR', HCS'⟩
      case measure => have := HLT.out; simp only [intOf]; omega
    · have hx : x = 32 := by omega
      subst hx
      have HB7' : Aside0 (Blk wv (w.heap.size + 1 + 1) (nums .u8 (digest SF)).toArray 26) := ⟨by have h := HB7.out; unfold upto at h; rw [outA_length] at h; simpa [digest] using h⟩
      have HI26 := Aside0.mk (show (Tryd.prog.info? 26).map (·.size) = some (nums .u8 (digest SF)).length by rw [nums_length, digest_len]; kernel_rfl)
      have HEW := HE3
      have HR2 := HKR
      have HSZ := Aside0.mk (show (nums .u8 zs).toArray.size = (nums .u8 (digest SF)).length by rw [nums_length, digest_len]; rfl)
      clear HB7 HE3 HKR
      go_wp2_with (first | ((with_reducible refine gate_load (ty := 26) rfl ?_); refine load_at rfl 26 _ rfl (w.heap.size + 1 + 1) 0 rfl (nums .u8 (digest SF)) _ (HB7'.out.range 0 _ [] (by simp)) Tryd.underlying26 rfl HI26.out ?_) | ((with_reducible refine gate_store (ty := 26) rfl ?_); (refine store_at rfl 26 _ _ rfl w.heap.size (nums .u8 (digest SF)) rfl rfl _ 26 HR2.out HSZ.out HI26.out (one_cells _ _) ?_)) | fail)
      intro wf hWf hBf
      have HEF := Aside0.mk (hWf.ext HEW.out (Nat.le_refl _))
      have HBF := Aside0.mk hBf
      clear hWf hBf HEW HR2
      go_wp2_with fail
      (try simp only [Exit.inBlock, Exit.then])
      refine bodyPost_ret (results_cell_row rfl _ _ w.heap.size 26 (nums .u8 (digest SF)).toArray (0, 0) _ rfl HBF.out.is Tryd.underlying26 rfl (by simpa using HI26.out)) rfl ?_
      exact ⟨rfl, HEF.out⟩

theorem abc_is : shaF [97, 98, 99] = digest ⟨3128432319, 2399260650, 1094795486, 1571693091, 2953011619, 2518121116, 3021012833, 4060091821⟩ := by decide +kernel
set_option maxHeartbeats 4000000 in
theorem known_calls (w : World) (hT : Tab 1 w) (h2 : 2 ≤ w.heap.size) : Calls Tryd.prog 14 #[] w fun e w' => e = .returned (.bool true) ∧ Ext w w' := by
  have HT := Aside0.mk (hT.ext ((Ext.refl w).alloc (.cells #[Value.int .u8 97, Value.int .u8 98, Value.int .u8 99] 5 (3, 4))))
  have HE := Aside0.mk ((Ext.refl w).alloc (.cells #[Value.int .u8 97, Value.int .u8 98, Value.int .u8 99] 5 (3, 4)))
  have HC := Aside0.mk (show Kd.C kb (w.alloc (.cells #[Value.int .u8 97, Value.int .u8 98, Value.int .u8 99] 5 (3, 4))) (some ⟨w.heap.size, 0, none⟩) 3 [97, 98, 99] from C_of_cells (k := .u8) (l := [97, 98, 99]) (fun j p hj => by
    have hj3 : j < 3 := (List.getElem?_eq_some_iff.1 hj).1
    obtain h | h | h : j = 0 ∨ j = 1 ∨ j = 2 := by omega
    all_goals (subst h; rw [← Option.some.inj hj]; have hb := heap_alloc_new w (.cells #[Value.int .u8 97, Value.int .u8 98, Value.int .u8 99] 5 (3, 4)); rw [cell_of_cells hb]; rfl)) (by decide))
  obtain ⟨D, hD⟩ : ∃ D, D = shaF [97, 98, 99] := ⟨_, rfl⟩
  have HD := Aside0.mk hD
  have HQ := Aside0.mk (fun W => by have := equal_sum D D (by rw [hD, sha_len]) (by rw [hD, sha_len]) (by rw [hD]; exact sha_isB _) (by rw [hD]; exact sha_isB _) W; rwa [show decide (D = D) = true by simp] at this : ∀ W : World, (Op.equal 26 (sumV D) (sumV D)).run Tryd.prog W = .ok true W)
  have kc := fun (w : World) (C : Array Value) (n c : Nat) => Lib.run_convert_bytes_const (P := Tryd.prog) w 22 5 C n c Tryd.underlying22 Tryd.underlying5
  clear hD hT
  go_enter Tryd.func14, Tryd.ntmps14
  go_wp2_with fail
  refine (of_calls _ _ 3 3 [97, 98, 99] rfl HT.out HC.out (Nat.le_refl _) (by decide) (by rw [size_alloc]; omega)).mono ?_
  rintro e w1 ⟨rfl, hE1⟩
  rw [← HD.out]
  have HE1 := Aside0.mk (HE.out.trans hE1)
  clear hE1 HE HC HT
  go_wp2_with fail
  refine (sum_calls w1 ⟨3128432319, 2399260650, 1094795486, 1571693091, 2953011619, 2518121116, 3021012833, 4060091821⟩).mono ?_
  rintro e w2 ⟨rfl, hE2⟩
  rw [← abc_is, ← HD.out]
  have HE2 := Aside0.mk (HE1.out.trans hE2)
  clear hE2 HE1
  go_wp2_with (first | ((with_reducible refine gate_eql (ty := 26) rfl ?_); (refine eql_at rfl 26 26 _ _ rfl (nums .u8 D).toArray (nums .u8 D).toArray rfl rfl (by kernel_rfl) true (HQ.out _) ?_)) | fail)
  go_ret
  exact ⟨rfl, HE2.out⟩
end Go.Proofs.YtbnbncnmhhioeaaDoor.By
