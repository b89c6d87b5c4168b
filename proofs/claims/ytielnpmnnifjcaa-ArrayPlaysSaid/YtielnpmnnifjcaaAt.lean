/- An array: Match. -/
import Derived.Test.YtielnpmnnifjcaaAs
namespace Go.Proofs.Ytielnpmnnifjcaa.By
open Go.RowKit Go.Proofs.Ytielnpmnnifjcaa.Reg Go.Proofs.YtielnpmnnifjcaaW.PrintWords Go.Proofs.YtielnpmnnifjcaaW.PrintLast Go.Proofs.YtielnpmnnifjcaaW.PrintMore
set_option linter.unusedVariables false
set_option linter.unusedSimpArgs false


/-- The least number of changes behind which the blocks are these rows; none: 0, false. -/
def MQ (n : Nat) (R : Nat → List Int) (L : List Ch) (rows : List (List Int)) (k : Nat) (ok : Bool) : Prop :=
  (ok = true ∧ k ≤ L.length ∧ rowsOf (aftR R (L.take k)) n = rows ∧ ∀ j, j < k → rowsOf (aftR R (L.take j)) n ≠ rows) ∨ (ok = false ∧ k = 0 ∧ ∀ j, j ≤ L.length → rowsOf (aftR R (L.take j)) n ≠ rows)
theorem MQ.one {n : Nat} {R : Nat → List Int} {L : List Ch} {rows : List (List Int)} {k k' : Nat} {ok ok' : Bool} (h : MQ n R L rows k ok) (h' : MQ n R L rows k' ok') : k = k' ∧ ok = ok' := by
  rcases h with ⟨a, b, c, d⟩ | ⟨a, b, c⟩ <;> rcases h' with ⟨a', b', c', d'⟩ | ⟨a', b', e'⟩
  · refine ⟨?_, by rw [a, a']⟩
    rcases Nat.lt_trichotomy k k' with h | h | h
    · exact absurd c (d' k h)
    · exact h
    · exact absurd c' (d k' h)
  · exact absurd c (e' k b)
  · exact absurd c' (c k' b')
  · exact ⟨by rw [b, b'], by rw [a, a']⟩
section
variable {w w' : World} {ba n : Nat} {R R' : Nat → List Int} {M M' : Nat → Bool}
set_option maxRecDepth 100000 in
set_option maxHeartbeats 2000000 in
theorem amatch_calls {A : Option Addr} {nl c : Nat} (h : AV w ba n R M R' M' (.slice A nl c)) {L : List Ch} (hL : OR w (.slice A nl c) L) (hnl : nl = L.length) (hok : ∀ p ∈ L, okC n p) (hn64 : n ≤ 64) (hlim : nl ≤ 100000) (Ar : Option Addr) (m cr : Nat) (rows : List (List Int)) (hm : m = rows.length) (hr : Kd.C kBB w Ar m rows) (hcr : m ≤ cr) :
    Calls Try.prog 7 #[.pointer (some ⟨ba, 0, none⟩), .slice Ar m cr] w fun e w' => ∃ k ok, e = .returned (.tuple #[.int .i64 ((k : Nat) : Int), .bool ok]) ∧ MQ n R L rows k ok ∧ Ext w w' := by
  obtain ⟨A', c', e', hcc, hCC⟩ := hL.nat hnl
  injection e' with e1 e2 e3
  rw [← e1] at hCC
  rw [← e3] at hcc
  clear e1 e2 e3
  have HCC := Aside0.mk hCC
  have HCR := Aside0.mk hr
  have HMR := Aside0.mk hm
  have HNL := Aside0.mk hnl
  have HOK := Aside0.mk hok
  have HN64 := Aside0.mk hn64
  have HAV := Aside0.mk h
  obtain ⟨cs, hB, hA⟩ := h
  have hsz : 1 + 2112 ≤ cs.size := by rw [hA.sz]; decide
  have HSL := Aside0.mk (segB_len cs 1 hsz)
  have HRG := Aside0.mk (segB_range hB hsz)
  have HON := Aside0.mk (segB_one hA.la hsz)
  have HI63 := Aside0.mk (show (Try.prog.info? 63).map (·.size) = some (segB cs 1).length from by rw [segB_len cs 1 hsz]; kernel_rfl)
  have HBV0 := Aside0.mk (show BV (segB cs 1).toArray 0 (aftR R (L.take 0)) (aftM M (L.take 0)) from hA.la.moved (fun j hj => by rw [Nat.zero_add, List.getElem?_toArray]; exact segB_at cs 1 j hj))
  have HI71 := Aside0.mk (fun (p : Ch) (hp : p.2.2.length = 32) => show (Try.prog.info? 71).map (·.size) = some (chL p).length from by rw [chL_len p hp]; kernel_rfl)
  clear hL hnl hok hn64 hCC hr hm hB hA hsz
  go_enter Try.func7, Try.ntmps7
  go_wp2_with (first | ((with_reducible refine gate_load (ty := 63) rfl ?_); refine load_at rfl 63 _ rfl ba 1 rfl (segB cs 1) _ HRG.out Try.underlying63 rfl HI63.out ?_) | ((with_reducible refine gate_alloc (ty := 63) rfl ?_); refine alloc_at rfl 63 rfl _ zero63 ?_) | ((with_reducible refine gate_store (ty := 63) rfl ?_); refine store_at rfl 63 _ _ rfl w.heap.size (segB cs 1) rfl rfl zB.toArray 63 (Blk.new _ _ _) (by rw [List.size_toArray, zB_len, HSL.out]) HI63.out HON.out ?_) | fail)
  intro w1 hW1 hb1
  obtain ⟨b6, hb6⟩ : ∃ z, z = w.heap.size := ⟨_, rfl⟩
  rw [← hb6] at hW1 hb1 ⊢
  have HE1 := Aside0.mk (show Ext w w1 from (Chg.of_wrote (S := fun j => j = b6) hW1 rfl).to_ext ((Ext.refl w).alloc _) (fun j hj => by rw [hj, hb6]; exact Nat.le_refl _))
  have HZ := Aside0.mk (show ∃ ds, Blk w1 b6 ds 63 ∧ ds.size = 2112 ∧ BV ds 0 (aftR R (L.take 0)) (aftM M (L.take 0)) from ⟨_, hb1, by rw [List.size_toArray, HSL.out], HBV0.out⟩)
  have HB6 := Aside0.mk hb6
  clear hW1 hb1 hb6 HRG HON HBV0
  go_wp2_with fail
  go_loopw [7] (fun j wr => ∃ x : Nat, j = .int .i64 x ∧ Aside0 (x ≤ nl) ∧ Aside0 (∃ ds, Blk wr b6 ds 63 ∧ ds.size = 2112 ∧ BV ds 0 (aftR R (L.take x)) (aftM M (L.take x))) ∧ Aside0 (∀ j, j < x → rowsOf (aftR R (L.take j)) n ≠ rows) ∧ Aside0 (Ext w wr)) (fun j _ => nl + 1 - (intOf j).toNat)
  case atStart => exact ⟨0, rfl, ⟨Nat.zero_le _⟩, HZ, ⟨fun j hj => by omega⟩, HE1⟩
  case round =>
    clear HZ HE1
    obtain ⟨x, rfl, HX, HD, HQ, HE⟩ := hrel
    have g1 := HX.out
    obtain ⟨wx, hwx⟩ : ∃ wx : World, wx = wr := ⟨_, rfl⟩
    subst hwx
    obtain ⟨ds, hds1, hds2, hds3⟩ := HD.out
    have HAR := Aside0.mk (are_calls (HAV.out.ext HE.out) HN64.out hds1 hds3 Ar m cr rows HMR.out (Kd.C_below HCR.out HE.out) hcr)
    have HDS := Aside0.mk (And.intro hds1 (And.intro hds2 hds3))
    clear hds1 hds2 hds3 HD
    by_cases he : rows = rowsOf (aftR R (L.take x)) n
    · have HMQ := Aside0.mk (show MQ n R L rows x true from .inl ⟨rfl, by have := HNL.out; omega, he.symm, HQ.out⟩)
      rw [decide_eq_true he] at HAR
      clear he
      go_wp2_with fail
      refine HAR.out.mono ?_
      rintro e w2 ⟨rfl, hE⟩
      have HE2 := Aside0.mk (HE.out.trans hE)
      clear hE HAR
      go_wp2_with fail
      go_ret2
      exact ⟨x, true, rfl, HMQ.out, HE2.out⟩
    · rw [decide_eq_false he] at HAR
      have HNE := Aside0.mk he
      clear he
      go_wp2_with fail
      refine HAR.out.mono ?_
      rintro e w2 ⟨rfl, hE⟩
      have HE2 := Aside0.mk (HE.out.trans hE)
      have HB2 := Aside0.mk (HDS.out.1.ext hE)
      obtain ⟨c0, c1⟩ := (HAV.out.ext HE2.out).cells
      clear hE HAR c0
      by_cases hlt : x < nl
      · have HLT := Aside0.mk hlt
        have hxe : x < L.length := by have := HNL.out; omega
        have hget : L[x]? = some L[x] := List.getElem?_eq_getElem hxe
        have HPK := Aside0.mk (HOK.out _ (List.getElem_mem hxe))
        obtain ⟨b, off, hA, hrg⟩ := ch_at (Kd.C_below HCC.out HE2.out) x (by omega) _ hget
        have HTR := Aside0.mk (aftR_take (R := R) hget)
        have HTM := Aside0.mk (aftM_take (M := M) hget)
        generalize L[x] = p at hrg HPK HTR HTM
        obtain ⟨trim, at', data⟩ := p
        obtain ⟨k, rfl⟩ : ∃ k : Nat, at' = k := ⟨at'.toNat, by have := HPK.out.1; dsimp only at this; omega⟩
        have HKK := Aside0.mk (show k < 64 ∧ data.length = 32 from ⟨by have := HPK.out.2.1; have := HN64.out; dsimp only at *; omega, HPK.out.2.2⟩)
        subst hA
        have HRG := Aside0.mk (show w2.rangeAt b (off + x * 34) (chL (trim, (k : Int), data)) from hrg)
        have HDO := Aside0.mk (bdo_calls w2 b6 0 63 ds _ _ HB2.out HDS.out.2.2 (by rw [HDS.out.2.1]; decide) trim k data HKK.out.1 HKK.out.2)
        have hxl : (x : Int) < nl := by omega
        have hxb : ((x : Int) == nl) = false := by simp; omega
        clear hrg hget hxe
        go_wp2_with (first | ((with_reducible refine gate_load (ty := 71) rfl ?_); refine load_at rfl 71 _ rfl b (off + x * 34) rfl (chL (trim, (k : Int), data)) _ HRG.out Try.underlying71 rfl (HI71.out _ HKK.out.2) ?_) | fail)
        refine HDO.out.mono ?_
        rintro e w3 ⟨rfl, hB3, hC3⟩
        have HD3 := Aside0.mk (show ∃ ds, Blk w3 b6 ds 63 ∧ ds.size = 2112 ∧ BV ds 0 (aftR R (L.take (x + 1))) (aftM M (L.take (x + 1))) from ⟨_, hB3, by rw [doC_size HKK.out.1 HKK.out.2 (by rw [HDS.out.2.1]; decide), HDS.out.2.1], by rw [HTR.out, HTM.out]; exact HDS.out.2.2.do trim k data HKK.out.1 HKK.out.2 (by rw [HDS.out.2.1]; decide)⟩)
        have HE3 := Aside0.mk (hC3.to_ext HE2.out (fun j hj => by rw [hj, HB6.out]; exact Nat.le_refl _))
        have HQ3 := Aside0.mk (show ∀ j, j < x + 1 → rowsOf (aftR R (L.take j)) n ≠ rows from fun j hj => by
          by_cases h : j < x
          · exact HQ.out j h
          · obtain rfl : j = x := by omega
            exact fun e => HNE.out e.symm)
        clear hB3 hC3 HDO HRG HDS HB2 c1
        go_wp2_with fail
        go_roundw
        case rel => exact ⟨x + 1, by go_num, ⟨hlt⟩, HD3, HQ3, HE3⟩
        case measure => have := HLT.out; simp only [intOf]; omega
      · obtain rfl : x = nl := by omega
        have HMQ := Aside0.mk (show MQ n R L rows 0 false from .inr ⟨rfl, rfl, fun j hj => by
          by_cases h : j < x
          · exact HQ.out j h
          · obtain rfl : j = x := by have := HNL.out; omega
            exact fun e => HNE.out e.symm⟩)
        go_wp2_with fail
        go_ret2
        exact ⟨0, false, rfl, HMQ.out, HE2.out⟩
end
end Go.Proofs.Ytielnpmnnifjcaa.By
