/- The document's reader's methods. -/
import Derived.Test.YthgdjgnbifakbaaDoc
namespace Go.Proofs.Ythgdjgnbifakbaa.By
open Go.RowKit Go.Proofs.Ythgdjgnbifakbaa.Reg Go.Proofs.YthgdjgnbifakbaaW.PrintWords Go.Proofs.YthgdjgnbifakbaaW.PrintLast Go.Proofs.YthgdjgnbifakbaaW.PrintMore
set_option linter.unusedVariables false

set_option maxHeartbeats 1000000 in
theorem rbyte_bad (w : World) (lo hi b : Nat) (bs : List Int) (at_ : Int) (bad : Bool) (h : Rr w lo hi b bs at_ bad) (h0 : 0 ≤ at_) (h1 : at_ ≤ bs.length) (hb : bad = true ∨ (bs.length : Int) - at_ < 1) :
    Calls Try.prog 37 #[.pointer (some ⟨b, 0, none⟩)] w fun e w' => e = .returned (.int .u8 0) ∧ Rr w' lo hi b bs at_ true ∧ Tch w w' lo hi := by
  have H := Aside0.mk (next_bad w lo hi b bs at_ bad 1 h h0 h1 (by decide) hb)
  clear h h0 h1 hb
  go_enter Try.func37, Try.ntmps37
  go_wp2_with fail
  refine (H.out).mono ?_
  rintro e w1 ⟨rfl, hE⟩
  have HE := Aside0.mk hE
  clear hE H
  go_wp2
  go_ret
  exact ⟨rfl, HE.out⟩
set_option maxHeartbeats 1000000 in
theorem rbyte_ok (w : World) (lo hi b : Nat) (bs : List Int) (at_ : Int) (h : Rr w lo hi b bs at_ false) (h0 : 0 ≤ at_) (h1 : at_ + 1 ≤ bs.length) :
    Calls Try.prog 37 #[.pointer (some ⟨b, 0, none⟩)] w fun e w' => e = .returned (.int .u8 (rd bs at_)) ∧ Rr w' lo hi b bs (at_ + 1) false ∧ Tch w w' lo hi := by
  have H := Aside0.mk (next_ok w lo hi b bs at_ 1 h h0 (by decide) h1)
  have HT := Aside0.mk (show rd ((bs.drop at_.toNat).take (1 : Int).toNat) 0 = rd bs at_ by
    have := rd_at bs at_ h0 (by omega)
    rw [this]; rfl)
  clear h h0 h1
  go_enter Try.func37, Try.ntmps37
  go_wp2_with fail
  refine (H.out).mono ?_
  rintro e w1 ⟨A, c, rfl, hF, hc, hC, hE⟩
  obtain ⟨ad, rfl, hcell⟩ := at_k hC 0 (by decide) (by decide)
  rw [show (0 : Int).toNat = 0 from rfl, show ad.add 0 = ad by simp [Addr.add], HT.out] at hcell
  rw [show (1 : Int).toNat = 1 from rfl] at hc hC ⊢
  have HE := Aside0.mk hE
  clear hE H hC HT hF
  go_wp2
  go_ret
  exact ⟨rfl, HE.out⟩
set_option maxHeartbeats 1000000 in
theorem rint_bad (w : World) (lo hi b : Nat) (bs : List Int) (at_ : Int) (bad : Bool) (h : Rr w lo hi b bs at_ bad) (h0 : 0 ≤ at_) (h1 : at_ ≤ bs.length) (hb : bad = true ∨ (bs.length : Int) - at_ < 8) :
    Calls Try.prog 38 #[.pointer (some ⟨b, 0, none⟩)] w fun e w' => e = .returned (.int .i64 0) ∧ Rr w' lo hi b bs at_ true ∧ Tch w w' lo hi := by
  have H := Aside0.mk (next_bad w lo hi b bs at_ bad 8 h h0 h1 (by decide) hb)
  clear h h0 h1 hb
  go_enter Try.func38, Try.ntmps38
  go_wp2_with fail
  refine (H.out).mono ?_
  rintro e w1 ⟨rfl, hE⟩
  have HE := Aside0.mk hE
  clear hE H
  go_wp2
  go_ret
  exact ⟨rfl, HE.out⟩
set_option maxHeartbeats 2000000 in
theorem rint_ok (w : World) (lo hi b : Nat) (bs : List Int) (at_ : Int) (h : Rr w lo hi b bs at_ false) (h0 : 0 ≤ at_) (hB : isB bs) (h1 : at_ + 8 ≤ bs.length) :
    Calls Try.prog 38 #[.pointer (some ⟨b, 0, none⟩)] w fun e w' => e = .returned (.int .i64 (numI ((bs.drop at_.toNat).take 8))) ∧ Rr w' lo hi b bs (at_ + 8) false ∧ Tch w w' lo hi := by
  have H := Aside0.mk (next_ok w lo hi b bs at_ 8 h h0 (by decide) h1)
  have HL := Aside0.mk (show ((bs.drop at_.toNat).take 8).length = 8 by rw [List.length_take, List.length_drop]; omega)
  have HB := Aside0.mk ((hB.drop at_.toNat).take 8)
  clear h h0 h1 hB
  go_enter Try.func38, Try.ntmps38
  go_wp2_with fail
  refine (H.out).mono ?_
  rintro e w1 ⟨A, c, rfl, hF, hc, hC, hE⟩
  rw [show (8 : Int).toNat = 8 from rfl] at hc hC ⊢
  generalize hxs : (bs.drop at_.toNat).take 8 = xs at *
  have HXS := Aside0.mk hxs
  clear hxs hF
  have HC := Aside0.mk hC
  have HE := Aside0.mk hE
  clear hE H hC
  go_wp2
  go_loop [5, 6] (fun v i => ∃ x u : Int, v = .int .u64 u ∧ i = .int .i64 x ∧ Aside0 (0 ≤ x ∧ x ≤ 8) ∧ Aside0 (u = fold8 0 (xs.take x.toNat))) (fun v i => 8 - (intOf i).toNat)
  case atStart => exact ⟨0, 0, rfl, rfl, ⟨by decide⟩, ⟨rfl⟩⟩
  case round =>
    obtain ⟨x, u, rfl, rfl, HX, HU⟩ := hrel
    obtain ⟨g0, g1⟩ := HX.out
    by_cases hlt : x < 8
    · obtain ⟨ad, e, hcell⟩ := at_k HC.out x g0 (by omega)
      have hr := isB_rd HB.out x
      have HR := Aside0.mk hr
      have HU' := Aside0.mk (fold8_range (xs.take x.toNat) 0 (by decide))
      subst e
      clear hr
      go_wp2
      go_round
      case rel =>
        refine ⟨x + 1, _, rfl, rfl, ⟨by omega, by omega⟩, ⟨?_⟩⟩
        rw [take_rd xs x g0 (by have := HL.out; omega), fold8_snoc, ← HU.out, IntKind.wrap_u64, IntKind.wrap_u64, IntKind.wrap_u64]
        omega
      case measure => simp only [intOf]; omega
    · have hx : x = 8 := by omega
      subst hx
      go_wp2
      go_ret
      refine ⟨?_, HE.out⟩
      rw [HXS.out]
      have := HU.out
      rw [List.take_of_length_le (by have := HL.out; omega)] at this
      rw [this]
      rfl

theorem nums_app (k : IntKind) (a b : List Int) : nums k (a ++ b) = nums k a ++ nums k b := by simp [nums]
set_option maxHeartbeats 2000000 in
theorem rsumr_bad (w : World) (lo hi b : Nat) (bs : List Int) (at_ : Int) (bad : Bool) (h : Rr w lo hi b bs at_ bad) (h0 : 0 ≤ at_) (h1 : at_ ≤ bs.length) (hb : bad = true ∨ (bs.length : Int) - at_ < 32) :
    Calls Try.prog 39 #[.pointer (some ⟨b, 0, none⟩)] w fun e w' => e = .returned (sumV zero32) ∧ Rr w' lo hi b bs at_ true ∧ Tch w w' lo hi := by
  have hx1 := (Ext.refl w).alloc (.cells (nums .u8 zero32).toArray 24)
  have hk1 := Blk.new w (nums .u8 zero32).toArray 24
  have hs1 := size_alloc w (.cells (nums .u8 zero32).toArray 24)
  have hx2 := hx1.alloc (.cells (nums .u8 zero32).toArray 24)
  have hk2 := hk1.alloc (.cells (nums .u8 zero32).toArray 24)
  have hn2 := Blk.new (w.alloc (.cells (nums .u8 zero32).toArray 24)) (nums .u8 zero32).toArray 24
  rw [hs1] at hn2
  have HL := Aside0.mk (show hi ≤ w.heap.size by obtain ⟨_, _, h⟩ := h; exact h.size)
  have H := Aside0.mk (next_bad _ lo hi b bs at_ bad 32 (h.ext hx2) h0 h1 (by decide) hb)
  have HK2 := Aside0.mk hk2
  have HN2 := Aside0.mk hn2
  have HX2 := Aside0.mk hx2
  have HI := Aside0.mk (show (Try.prog.info? 24).map (·.size) = some (nums .u8 zero32).length by kernel_rfl)
  clear h h0 h1 hb hx1 hk1 hs1 hx2 hk2 hn2
  go_enter Try.func39, Try.ntmps39
  go_wp2_with fail
  refine (H.out).mono ?_
  rintro e w1 ⟨rfl, hR, hT⟩
  have HK3 := Aside0.mk (hT.blk HK2.out (by have := HL.out; omega))
  have HN3 := Aside0.mk (hT.blk HN2.out (by have := HL.out; omega))
  have HT3 := Aside0.mk ((Tch.of_ext HX2.out lo hi).trans hT)
  have HR3 := Aside0.mk hR
  clear hR hT H HK2 HN2 HX2
  go_wp2_with fail
  go_loopw [6] (fun i wr => i = .int .i64 0 ∧ wr = w1) (fun _ _ => 0)
  case atStart => exact ⟨rfl, rfl⟩
  case round =>
    obtain ⟨rfl, rfl⟩ := hrel
    go_wp2_with (first | ((with_reducible refine gate_load (ty := 24) rfl ?_); (refine load_at rfl 24 _ rfl (w.heap.size + 1) 0 rfl (nums .u8 zero32) _ (HN3.out.range 0 _ [] rfl) Try.underlying24 rfl HI.out ?_)) | ((with_reducible refine gate_store (ty := 24) rfl ?_); (refine store_at rfl 24 _ _ rfl w.heap.size (nums .u8 zero32) rfl rfl _ 24 HK3.out rfl HI.out (one_cells _ _) ?_)) | fail)
    intro w4 hW4 hB4
    have HH4 := Aside0.mk (HR3.out.tch (Tch.of_wrote hW4 (Nat.le_refl _) (Nat.lt_succ_self _)) (.inl HL.out))
    have HT4 := Aside0.mk (HT3.out.far_ hW4 (Nat.le_refl _))
    clear hW4 HR3 HT3 HK3
    go_wp2
    (try simp only [Exit.inBlock, Exit.then])
    refine bodyPost_ret (results_cell_row rfl _ _ w.heap.size 24 (nums .u8 zero32).toArray (0, 0) _ rfl hB4.is Try.underlying24 rfl (by simpa using HI.out)) rfl ?_
    exact ⟨rfl, HH4.out, HT4.out⟩

theorem set_row (xs : List Int) (i : Nat) (n : Nat) (hi : i < xs.length) (hn : i + (n + 1) = xs.length) :
    (nums .u8 (xs.take i ++ List.replicate (n + 1) 0)).toArray.setIfInBounds i (.int .u8 (rd xs i)) = (nums .u8 (xs.take (i + 1) ++ List.replicate n 0)).toArray := by
  rw [List.setIfInBounds_toArray]
  congr 1
  have e : Value.int .u8 (rd xs i) = (fun x => Value.int .u8 x) (rd xs i) := rfl
  unfold nums
  rw [e, ← List.map_set, set_at xs i hi, List.take_succ_eq_append_getElem hi]
  congr 1
  rw [List.append_assoc]
  congr 2
  unfold rd
  rw [Int.toNat_natCast, List.getD_eq_getElem?_getD, List.getElem?_eq_getElem hi]
  rfl

set_option maxHeartbeats 4000000 in
theorem rsumr_ok (w : World) (lo hi b : Nat) (bs : List Int) (at_ : Int) (h : Rr w lo hi b bs at_ false) (h0 : 0 ≤ at_) (h1 : at_ + 32 ≤ bs.length) :
    Calls Try.prog 39 #[.pointer (some ⟨b, 0, none⟩)] w fun e w' => e = .returned (sumV ((bs.drop at_.toNat).take 32)) ∧ Rr w' lo hi b bs (at_ + 32) false ∧ Tch w w' lo hi := by
  have hx1 := (Ext.refl w).alloc (.cells (nums .u8 zero32).toArray 24)
  have hk1 := Blk.new w (nums .u8 zero32).toArray 24
  have hs1 := size_alloc w (.cells (nums .u8 zero32).toArray 24)
  have hx2 := hx1.alloc (.cells (nums .u8 zero32).toArray 24)
  have hk2 := hk1.alloc (.cells (nums .u8 zero32).toArray 24)
  have hn2 := Blk.new (w.alloc (.cells (nums .u8 zero32).toArray 24)) (nums .u8 zero32).toArray 24
  rw [hs1] at hn2
  have HL := Aside0.mk (show hi ≤ w.heap.size by obtain ⟨_, _, h⟩ := h; exact h.size)
  have H := Aside0.mk (next_ok _ lo hi b bs at_ 32 (h.ext hx2) h0 (by decide) h1)
  have HXL := Aside0.mk (show ((bs.drop at_.toNat).take 32).length = 32 by rw [List.length_take, List.length_drop]; omega)
  have HK2 := Aside0.mk hk2
  have HN2 := Aside0.mk hn2
  have HX2 := Aside0.mk hx2
  clear h h0 h1 hx1 hk1 hs1 hx2 hk2 hn2
  go_enter Try.func39, Try.ntmps39
  go_wp2_with fail
  refine (H.out).mono ?_
  rintro e w1 ⟨A, c, rfl, hF, hc, hC, hR, hT⟩
  rw [show (32 : Int).toNat = 32 from rfl] at hc hC ⊢
  have HK3 := Aside0.mk (hT.blk HK2.out (by have := HL.out; omega))
  have hN3 := hT.blk HN2.out (by have := HL.out; omega)
  have HT3 := Aside0.mk ((Tch.of_ext HX2.out lo hi).trans hT)
  have HR3 := Aside0.mk hR
  have HF := Aside0.mk hF
  have HC := Aside0.mk hC
  have HG := Aside0.mk (show w.heap.size + 1 < w1.heap.size from hN3.lt)
  generalize hxs : (bs.drop at_.toNat).take 32 = xs at *
  have HXS := Aside0.mk hxs
  have HI := Aside0.mk (show (Try.prog.info? 24).map (·.size) = some (nums .u8 xs).length by rw [nums_length, HXL.out]; kernel_rfl)
  clear hR hT H HK2 HN2 HX2 hF hC hxs
  go_wp2_with fail
  go_loopw [6] (fun i wr => ∃ x : Int, i = .int .i64 x ∧ Aside0 (0 ≤ x ∧ x ≤ 32) ∧ Blk wr (w.heap.size + 1) (nums .u8 (xs.take x.toNat ++ List.replicate (32 - x.toNat) 0)).toArray 24 ∧ Aside0 (Wrote w1 wr (w.heap.size + 1))) (fun i _ => 32 - (intOf i).toNat)
  case atStart => exact ⟨0, rfl, ⟨by decide⟩, hN3, ⟨rfl, rfl, rfl, rfl, fun _ _ => rfl⟩⟩
  case round =>
    clear hN3
    obtain ⟨x, rfl, HX, hbk, HW⟩ := hrel
    obtain ⟨g0, g1⟩ := HX.out
    by_cases hlt : x < 32
    · have hC2 := kb_stays HC.out (fun a ha => HW.out.block _ (by have := (HF.out a ha).2; have := HL.out; omega))
      obtain ⟨ad, e, hcell⟩ := at_k hC2 x g0 (by omega)
      subst e
      have hst := hbk.set x.toNat (.int .u8 (rd xs x))
      have hx2 : rd xs x = rd xs (x.toNat : Int) := by rw [Int.toNat_of_nonneg g0]
      rw [hx2, show 32 - x.toNat = (31 - x.toNat) + 1 by omega, set_row xs x.toNat (31 - x.toNat) (by have := HXL.out; omega) (by have := HXL.out; omega), ← hx2] at hst
      have hfr := hbk.free x.toNat
      have hcl : ∃ v, wr.cell? ⟨w.heap.size + 1, x.toNat, none⟩ = some v := by
        have hsz : (nums .u8 (xs.take x.toNat ++ List.replicate (32 - x.toNat) 0)).length = 32 := by rw [nums_length, List.length_append, List.length_take, List.length_replicate, HXL.out]; omega
        exact ⟨_, hbk.cell x.toNat (by rw [List.getElem?_toArray, List.getElem?_eq_getElem (by rw [hsz]; omega)])⟩
      obtain ⟨v0, hv0⟩ := hcl
      have hWn := HW.out.trans (Wrote.setCell wr (w.heap.size + 1) x.toNat (.int .u8 (rd xs x)))
      have HST := Aside0.mk hst
      have HWN := Aside0.mk hWn
      clear hC2 hst hWn hx2 hbk HW
      go_wp2
      go_roundw
      case rel =>
        refine ⟨x + 1, rfl, ⟨by omega, by omega⟩, ?_, HWN⟩
        rw [show (x + 1).toNat = x.toNat + 1 by omega, show 32 - (x.toNat + 1) = 31 - x.toNat by omega]
        exact HST.out
      case measure => simp only [intOf]; omega
    · have hx : x = 32 := by omega
      subst hx
      have hbk' : Blk wr (w.heap.size + 1) (nums .u8 xs).toArray 24 := by
        rw [show (32 : Int).toNat = 32 from rfl, List.take_of_length_le (by rw [HXL.out]; exact Nat.le_refl _), show List.replicate (32 - 32) (0 : Int) = [] from rfl, List.append_nil] at hbk
        exact hbk
      have HB := Aside0.mk hbk'
      have HK4 := Aside0.mk (HK3.out.wrote HW.out (by omega))
      have HR4 := Aside0.mk (HR3.out.tch (Tch.of_wrote HW.out (Nat.le_refl _) (Nat.lt_succ_self _)) (.inl (Nat.le_trans HL.out (Nat.le_succ _))))
      have HT4 := Aside0.mk (HT3.out.far_ HW.out (Nat.le_succ _))
      clear hbk hbk' HW HK3 HR3 HT3
      go_wp2_with (first | ((with_reducible refine gate_load (ty := 24) rfl ?_); (refine load_at rfl 24 _ rfl (w.heap.size + 1) 0 rfl (nums .u8 xs) _ (HB.out.range 0 _ [] (by simp)) Try.underlying24 rfl HI.out ?_)) | ((with_reducible refine gate_store (ty := 24) rfl ?_); (refine store_at rfl 24 _ _ rfl w.heap.size (nums .u8 xs) rfl rfl _ 24 HK4.out ?c1 HI.out (one_cells _ _) ?_)) | fail)
      case c1 => exact (show 32 = (nums .u8 xs).length by rw [nums_length, HXL.out])
      intro w4 hW4 hB4
      have HH4 := Aside0.mk (HR4.out.tch (Tch.of_wrote hW4 (Nat.le_refl _) (Nat.lt_succ_self _)) (.inl HL.out))
      have HT5 := Aside0.mk (HT4.out.far_ hW4 (Nat.le_refl _))
      clear hW4 HR4 HT4 HK4
      go_wp2
      (try simp only [Exit.inBlock, Exit.then])
      refine bodyPost_ret (results_cell_row rfl _ _ w.heap.size 24 (nums .u8 xs).toArray (0, 0) _ rfl hB4.is Try.underlying24 rfl (by simpa using HI.out)) rfl ?_
      rw [HXS.out]
      exact ⟨rfl, HH4.out, HT5.out⟩

theorem built_zero : Program.built Try.prog 26 [] = some (refC 0 zero32).toArray := by kernel_rfl

set_option maxHeartbeats 2000000 in
theorem rrefr_bad (w : World) (lo hi b : Nat) (bs : List Int) (at_ : Int) (bad : Bool) (h : Rr w lo hi b bs at_ bad) (h0 : 0 ≤ at_) (h1 : at_ ≤ bs.length) (hb : bad = true ∨ (bs.length : Int) - at_ < 40) :
    Calls Try.prog 40 #[.pointer (some ⟨b, 0, none⟩)] w fun e w' => e = .returned (refV 0 zero32) ∧ Rr w' lo hi b bs at_ true ∧ Tch w w' lo hi := by
  have hx1 := (Ext.refl w).alloc (.cells (refC 0 zero32).toArray 26)
  have hk1 := Blk.new w (refC 0 zero32).toArray 26
  have hlt : (if bad = true then 0 else (bs.length : Int) - at_) < 40 := by
    rcases hb with hb | hb
    · rw [if_pos hb]; decide
    · split
      · decide
      · exact hb
  have hl := rleft_all _ lo hi b bs at_ bad (h.ext hx1) h0 h1 _ rfl
  generalize (if bad = true then 0 else (bs.length : Int) - at_) = r at hl hlt
  obtain ⟨A, c, h⟩ := h
  have HL := Aside0.mk h.size
  have HH := Aside0.mk (h.ext hx1)
  have H := Aside0.mk hl
  have HK := Aside0.mk hk1
  have HX := Aside0.mk hx1
  have HI := Aside0.mk (show (Try.prog.info? 26).map (·.size) = some (refC 0 zero32).length by kernel_rfl)
  clear h hl hk1 hx1 hb h0 h1
  go_enter Try.func40, Try.ntmps40
  go_wp2_with fail
  refine (H.out).mono ?_
  rintro e w1 ⟨rfl, hE⟩
  have h1 := HH.out.ext hE
  have f2 := h1.blk.free 2
  have c2 := h1.blk.cell 2 (v := .bool bad) rfl
  obtain ⟨h2, hw2⟩ := h1.bad_ true
  have HH2 := Aside0.mk h2
  have HT2 := Aside0.mk ((Tch.of_ext (HX.out.trans hE) lo hi).trans (Tch.of_wrote hw2 h1.low h1.high))
  have HK2 := Aside0.mk ((HK.out.ext hE).wrote hw2 (by have := h1.high; have := HL.out; omega))
  clear H HH HX HK hE h1 h2 hw2
  go_wp2_with (first | ((with_reducible refine gate_build (ty := 26) rfl ?_); (refine build_at rfl 26 #[] rfl (refC 0 zero32).toArray [] rfl built_zero ?_)) | ((with_reducible refine gate_store (ty := 26) rfl ?_); (refine store_at rfl 26 _ _ rfl w.heap.size (refC 0 zero32) rfl rfl _ 26 HK2.out rfl HI.out (one_ref _ _) ?_)) | fail)
  intro w4 hW4 hB4
  have HH4 := Aside0.mk (HH2.out.tch (Tch.of_wrote hW4 (Nat.le_refl _) (Nat.lt_succ_self _)) (.inl HL.out))
  have HT5 := Aside0.mk (HT2.out.far_ hW4 (Nat.le_refl _))
  clear hW4 HH2 HT2 HK2
  go_wp2
  (try simp only [Exit.inBlock, Exit.then])
  refine bodyPost_ret (results_cell_row rfl _ _ w.heap.size 26 (refC 0 zero32).toArray (0, 0) _ rfl hB4.is Try.underlying26 rfl (by simpa using HI.out)) rfl ?_
  exact ⟨rfl, ⟨A, c, HH4.out⟩, HT5.out⟩

set_option maxHeartbeats 2000000 in
theorem rrefr_ok (w : World) (lo hi b : Nat) (bs : List Int) (at_ : Int) (h : Rr w lo hi b bs at_ false) (h0 : 0 ≤ at_) (hB : isB bs) (h1 : at_ + 40 ≤ bs.length) :
    Calls Try.prog 40 #[.pointer (some ⟨b, 0, none⟩)] w fun e w' => e = .returned (refV (numI ((bs.drop at_.toNat).take 8)) ((bs.drop (at_ + 8).toNat).take 32)) ∧ Rr w' lo hi b bs (at_ + 40) false ∧ Tch w w' lo hi := by
  have hx1 := (Ext.refl w).alloc (.cells (refC 0 zero32).toArray 26)
  have hk1 := Blk.new w (refC 0 zero32).toArray 26
  have hl := rleft_ok _ lo hi b bs at_ (h.ext hx1) h0 (by omega)
  have hlt : ((bs.length : Int) - at_ < 40) = False := eq_false (by omega)
  have hltd : decide ((bs.length : Int) - at_ < 40) = false := decide_eq_false (by omega)
  have HL := Aside0.mk (show hi ≤ w.heap.size by obtain ⟨_, _, h⟩ := h; exact h.size)
  have HH := Aside0.mk (h.ext hx1)
  have H := Aside0.mk hl
  have HK := Aside0.mk hk1
  have HX := Aside0.mk hx1
  have HB := Aside0.mk hB
  have H01 := Aside0.mk (show 0 ≤ at_ ∧ at_ + 40 ≤ bs.length from ⟨h0, h1⟩)
  have HSL := Aside0.mk (show ((bs.drop (at_ + 8).toNat).take 32).length = 32 by rw [List.length_take, List.length_drop]; omega)
  clear h hl hk1 hx1 h0 h1 hB
  go_enter Try.func40, Try.ntmps40
  go_wp2_with fail
  refine (H.out).mono ?_
  rintro e w1 ⟨rfl, hE⟩
  have HH1 := Aside0.mk (HH.out.ext hE)
  have HK1 := Aside0.mk (HK.out.ext hE)
  have HT1 := Aside0.mk (Tch.of_ext (HX.out.trans hE) lo hi)
  clear H HH HX HK hE
  go_wp2_with fail
  refine (rint_ok w1 lo hi b bs at_ HH1.out H01.out.1 HB.out (by have := H01.out; omega)).mono ?_
  rintro e w2 ⟨rfl, hR, hT⟩
  have HH2 := Aside0.mk hR
  have HT2 := Aside0.mk (HT1.out.trans hT)
  have HK2 := Aside0.mk (hT.blk HK1.out (by have := HL.out; omega))
  clear hR hT HH1 HK1 HT1
  generalize hNe : numI ((bs.drop at_.toNat).take 8) = N at *
  have HNE := Aside0.mk hNe
  clear hNe
  go_wp2_with fail
  refine (rsumr_ok w2 lo hi b bs (at_ + 8) HH2.out (by have := H01.out; omega) (by have := H01.out; omega)).mono ?_
  rintro e w3 ⟨rfl, hR, hT⟩
  rw [show at_ + 8 + 32 = at_ + 40 by omega] at hR
  have HH3 := Aside0.mk hR
  have HT3 := Aside0.mk (HT2.out.trans hT)
  have HK3 := Aside0.mk (hT.blk HK2.out (by have := HL.out; omega))
  clear hR hT HH2 HK2 HT2
  generalize hSe : (bs.drop (at_ + 8).toNat).take 32 = S at *
  have HSE := Aside0.mk hSe
  clear hSe
  have HI := Aside0.mk (show (Try.prog.info? 26).map (·.size) = some (refC N S).length by unfold refC; rw [List.length_cons, nums_length, HSL.out]; kernel_rfl)
  go_wp2_with (first | ((with_reducible refine gate_build (ty := 26) rfl ?_); (refine build_at rfl 26 #[(0, .tmp 13), (1, .tmp 15)] rfl _ _ rfl (built_ref N S HSL.out) ?_)) | ((with_reducible refine gate_store (ty := 26) rfl ?_); (refine store_at rfl 26 _ _ rfl w.heap.size (refC N S) rfl rfl _ 26 HK3.out ?c1 HI.out (one_ref _ _) ?_)) | fail)
  case c1 => exact (show 33 = (refC N S).length by unfold refC; rw [List.length_cons, nums_length, HSL.out])
  intro w4 hW4 hB4
  have HH4 := Aside0.mk (HH3.out.tch (Tch.of_wrote hW4 (Nat.le_refl _) (Nat.lt_succ_self _)) (.inl HL.out))
  have HT5 := Aside0.mk (HT3.out.far_ hW4 (Nat.le_refl _))
  clear hW4 HH3 HT3 HK3
  go_wp2
  (try simp only [Exit.inBlock, Exit.then])
  refine bodyPost_ret (results_cell_row rfl _ _ w.heap.size 26 (refC N S).toArray (0, 0) _ rfl hB4.is Try.underlying26 rfl (by simpa using HI.out)) rfl ?_
  rw [HNE.out, HSE.out]
  exact ⟨rfl, HH4.out, HT5.out⟩

set_option maxHeartbeats 1000000 in
theorem rend_calls (w : World) (lo hi b : Nat) (bs : List Int) (at_ : Int) (bad : Bool) (h : Rr w lo hi b bs at_ bad) (h0 : 0 ≤ at_) (h1 : at_ ≤ bs.length) :
    Calls Try.prog 42 #[.pointer (some ⟨b, 0, none⟩)] w fun e w' => e = .returned (.int .i64 (endI (bs.drop at_.toNat) bad)) ∧ Ext w w' := by
  have hl := rleft_all _ lo hi b bs at_ bad h h0 h1 _ rfl
  obtain ⟨A, c, h⟩ := h
  have c2 := h.blk.cell 2 (v := .bool bad) rfl
  have H := Aside0.mk hl
  clear h hl
  unfold endI
  rw [List.length_drop]
  cases bad with
  | true =>
    rw [if_pos rfl]
    go_enter Try.func42, Try.ntmps42
    go_wp2
    go_ret
    exact ⟨rfl, Ext.refl w⟩
  | false =>
    rw [if_neg (by decide)]
    rw [if_neg (by decide)] at H
    by_cases hz : bs.length - at_.toNat = 0
    · rw [if_pos hz]
      have e : (bs.length : Int) - at_ = 0 := by omega
      rw [e] at H
      clear hz h0 h1 e
      go_enter Try.func42, Try.ntmps42
      go_wp2_with fail
      refine (H.out).mono ?_
      rintro e w1 ⟨rfl, hE⟩
      have HE := Aside0.mk hE
      clear hE H
      go_wp2
      go_ret
      exact ⟨rfl, HE.out⟩
    · rw [if_neg hz]
      have e1 : ((0 : Int) < (bs.length : Int) - at_) = True := eq_true (by omega)
      generalize (bs.length : Int) - at_ = r at *
      clear hz h0 h1
      go_enter Try.func42, Try.ntmps42
      go_wp2_with fail
      refine (H.out).mono ?_
      rintro e w1 ⟨rfl, hE⟩
      have HE := Aside0.mk hE
      clear hE H
      go_wp2
      go_ret
      exact ⟨rfl, HE.out⟩
end Go.Proofs.Ythgdjgnbifakbaa.By
