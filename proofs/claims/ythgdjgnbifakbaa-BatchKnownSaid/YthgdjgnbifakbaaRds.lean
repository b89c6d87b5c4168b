/- The reader's methods Sum and Ref. -/
import Derived.Test.YthgdjgnbifakbaaTake
namespace Go.Proofs.Ythgdjgnbifakbaa.By
open Go.RowKit Go.Proofs.Ythgdjgnbifakbaa.Reg Go.Proofs.YthgdjgnbifakbaaW.PrintWords Go.Proofs.YthgdjgnbifakbaaW.PrintLast Go.Proofs.YthgdjgnbifakbaaW.PrintMore
set_option linter.unusedVariables false

set_option maxHeartbeats 2000000 in
theorem rdsum_bad (w : World) (lo hi b : Nat) (xs : List Int) (bad : Bool) (h : Rd w lo hi b xs bad) (hb : bad = true ∨ xs.length < 32) :
    Calls Try.prog 29 #[.pointer (some ⟨b, 0, none⟩)] w fun e w' => e = .returned (sumV zero32) ∧ Rd w' lo hi b xs true ∧ Tch w w' lo hi := by
  have hx1 := (Ext.refl w).alloc (.cells #[Value.int .u8 0, Value.int .u8 0, Value.int .u8 0, Value.int .u8 0, Value.int .u8 0, Value.int .u8 0, Value.int .u8 0, Value.int .u8 0, Value.int .u8 0, Value.int .u8 0, Value.int .u8 0, Value.int .u8 0, Value.int .u8 0, Value.int .u8 0, Value.int .u8 0, Value.int .u8 0, Value.int .u8 0, Value.int .u8 0, Value.int .u8 0, Value.int .u8 0, Value.int .u8 0, Value.int .u8 0, Value.int .u8 0, Value.int .u8 0, Value.int .u8 0, Value.int .u8 0, Value.int .u8 0, Value.int .u8 0, Value.int .u8 0, Value.int .u8 0, Value.int .u8 0, Value.int .u8 0] 24)
  have hk1 : Blk (w.alloc (.cells #[Value.int .u8 0, Value.int .u8 0, Value.int .u8 0, Value.int .u8 0, Value.int .u8 0, Value.int .u8 0, Value.int .u8 0, Value.int .u8 0, Value.int .u8 0, Value.int .u8 0, Value.int .u8 0, Value.int .u8 0, Value.int .u8 0, Value.int .u8 0, Value.int .u8 0, Value.int .u8 0, Value.int .u8 0, Value.int .u8 0, Value.int .u8 0, Value.int .u8 0, Value.int .u8 0, Value.int .u8 0, Value.int .u8 0, Value.int .u8 0, Value.int .u8 0, Value.int .u8 0, Value.int .u8 0, Value.int .u8 0, Value.int .u8 0, Value.int .u8 0, Value.int .u8 0, Value.int .u8 0] 24)) w.heap.size #[Value.int .u8 0, Value.int .u8 0, Value.int .u8 0, Value.int .u8 0, Value.int .u8 0, Value.int .u8 0, Value.int .u8 0, Value.int .u8 0, Value.int .u8 0, Value.int .u8 0, Value.int .u8 0, Value.int .u8 0, Value.int .u8 0, Value.int .u8 0, Value.int .u8 0, Value.int .u8 0, Value.int .u8 0, Value.int .u8 0, Value.int .u8 0, Value.int .u8 0, Value.int .u8 0, Value.int .u8 0, Value.int .u8 0, Value.int .u8 0, Value.int .u8 0, Value.int .u8 0, Value.int .u8 0, Value.int .u8 0, Value.int .u8 0, Value.int .u8 0, Value.int .u8 0, Value.int .u8 0] 24 := Blk.new w _ 24
  have HL := Aside0.mk (show hi ≤ w.heap.size by obtain ⟨_, _, h⟩ := h; exact h.size)
  have H := Aside0.mk (take_sum_bad _ lo hi b xs bad (h.ext hx1) hb)
  have HI := Aside0.mk (show (Try.prog.info? 24).map (·.size) = some (nums .u8 zero32).length by kernel_rfl)
  have HZ := Aside0.mk (show 32 = (nums .u8 zero32).length by rfl)
  have HK := Aside0.mk hk1
  have HX := Aside0.mk hx1
  clear h hb hk1 hx1
  go_enter Try.func29, Try.ntmps29
  go_wp2_with fail
  refine (H.out).mono ?_
  rintro e w1 ⟨rfl, hR, hT⟩
  have HK1 := Aside0.mk (hT.blk HK.out (by have := HL.out; omega))
  have HR1 := Aside0.mk hR
  have HT1 := Aside0.mk ((Tch.of_ext HX.out lo hi).trans hT)
  clear hR hT H HK HX
  go_wp2_with (first | ((with_reducible refine gate_store (ty := 24) rfl ?_); (refine store_at rfl 24 _ _ rfl w.heap.size (nums .u8 zero32) rfl rfl _ 24 HK1.out HZ.out HI.out (one_cells _ _) ?_)) | fail)
  intro w4 hW4 hB4
  have HH4 := Aside0.mk (HR1.out.tch (Tch.of_wrote hW4 (Nat.le_refl _) (Nat.lt_succ_self _)) (.inl HL.out))
  have HT4 := Aside0.mk (HT1.out.far_ hW4 (Nat.le_refl _))
  clear hW4 HR1 HT1 HK1
  go_wp2
  (try simp only [Exit.inBlock, Exit.then])
  refine bodyPost_ret (results_cell_row rfl _ _ w.heap.size 24 (nums .u8 zero32).toArray (0, 0) _ rfl hB4.is Try.underlying24 rfl (by simpa using HI.out)) rfl ?_
  exact ⟨rfl, HH4.out, HT4.out⟩

set_option maxHeartbeats 2000000 in
theorem rdsum_ok (w : World) (lo hi b : Nat) (xs : List Int) (h : Rd w lo hi b xs false) (hb : isB xs) (hs : 32 ≤ xs.length) :
    Calls Try.prog 29 #[.pointer (some ⟨b, 0, none⟩)] w fun e w' => e = .returned (sumV (xs.take 32)) ∧ Rd w' lo hi b (xs.drop 32) false ∧ Tch w w' lo hi := by
  have hx1 := (Ext.refl w).alloc (.cells #[Value.int .u8 0, Value.int .u8 0, Value.int .u8 0, Value.int .u8 0, Value.int .u8 0, Value.int .u8 0, Value.int .u8 0, Value.int .u8 0, Value.int .u8 0, Value.int .u8 0, Value.int .u8 0, Value.int .u8 0, Value.int .u8 0, Value.int .u8 0, Value.int .u8 0, Value.int .u8 0, Value.int .u8 0, Value.int .u8 0, Value.int .u8 0, Value.int .u8 0, Value.int .u8 0, Value.int .u8 0, Value.int .u8 0, Value.int .u8 0, Value.int .u8 0, Value.int .u8 0, Value.int .u8 0, Value.int .u8 0, Value.int .u8 0, Value.int .u8 0, Value.int .u8 0, Value.int .u8 0] 24)
  have hk1 : Blk (w.alloc (.cells #[Value.int .u8 0, Value.int .u8 0, Value.int .u8 0, Value.int .u8 0, Value.int .u8 0, Value.int .u8 0, Value.int .u8 0, Value.int .u8 0, Value.int .u8 0, Value.int .u8 0, Value.int .u8 0, Value.int .u8 0, Value.int .u8 0, Value.int .u8 0, Value.int .u8 0, Value.int .u8 0, Value.int .u8 0, Value.int .u8 0, Value.int .u8 0, Value.int .u8 0, Value.int .u8 0, Value.int .u8 0, Value.int .u8 0, Value.int .u8 0, Value.int .u8 0, Value.int .u8 0, Value.int .u8 0, Value.int .u8 0, Value.int .u8 0, Value.int .u8 0, Value.int .u8 0, Value.int .u8 0] 24)) w.heap.size #[Value.int .u8 0, Value.int .u8 0, Value.int .u8 0, Value.int .u8 0, Value.int .u8 0, Value.int .u8 0, Value.int .u8 0, Value.int .u8 0, Value.int .u8 0, Value.int .u8 0, Value.int .u8 0, Value.int .u8 0, Value.int .u8 0, Value.int .u8 0, Value.int .u8 0, Value.int .u8 0, Value.int .u8 0, Value.int .u8 0, Value.int .u8 0, Value.int .u8 0, Value.int .u8 0, Value.int .u8 0, Value.int .u8 0, Value.int .u8 0, Value.int .u8 0, Value.int .u8 0, Value.int .u8 0, Value.int .u8 0, Value.int .u8 0, Value.int .u8 0, Value.int .u8 0, Value.int .u8 0] 24 := Blk.new w _ 24
  have HL := Aside0.mk (show hi ≤ w.heap.size by obtain ⟨_, _, h⟩ := h; exact h.size)
  have H := Aside0.mk (take_sum_ok _ lo hi b xs (h.ext hx1) hb hs)
  have HI := Aside0.mk (show (Try.prog.info? 24).map (·.size) = some (nums .u8 (xs.take 32)).length by rw [nums_length, List.length_take, Nat.min_eq_left hs]; kernel_rfl)
  have HZ := Aside0.mk (show 32 = (nums .u8 (xs.take 32)).length by rw [nums_length, List.length_take, Nat.min_eq_left hs])
  have HK := Aside0.mk hk1
  have HX := Aside0.mk hx1
  clear h hb hs hk1 hx1
  go_enter Try.func29, Try.ntmps29
  go_wp2_with fail
  refine (H.out).mono ?_
  rintro e w1 ⟨rfl, hR, hT⟩
  have HK1 := Aside0.mk (hT.blk HK.out (by have := HL.out; omega))
  have HR1 := Aside0.mk hR
  have HT1 := Aside0.mk ((Tch.of_ext HX.out lo hi).trans hT)
  clear hR hT H HK HX
  go_wp2_with (first | ((with_reducible refine gate_store (ty := 24) rfl ?_); (refine store_at rfl 24 _ _ rfl w.heap.size (nums .u8 (xs.take 32)) rfl rfl _ 24 HK1.out HZ.out HI.out (one_cells _ _) ?_)) | fail)
  intro w4 hW4 hB4
  have HH4 := Aside0.mk (HR1.out.tch (Tch.of_wrote hW4 (Nat.le_refl _) (Nat.lt_succ_self _)) (.inl HL.out))
  have HT4 := Aside0.mk (HT1.out.far_ hW4 (Nat.le_refl _))
  clear hW4 HR1 HT1 HK1
  go_wp2
  (try simp only [Exit.inBlock, Exit.then])
  refine bodyPost_ret (results_cell_row rfl _ _ w.heap.size 24 (nums .u8 (xs.take 32)).toArray (0, 0) _ rfl hB4.is Try.underlying24 rfl (by simpa using HI.out)) rfl ?_
  exact ⟨rfl, HH4.out, HT4.out⟩

set_option maxHeartbeats 2000000 in
theorem rdref_bad (w : World) (lo hi b : Nat) (xs : List Int) (bad : Bool) (h : Rd w lo hi b xs bad) (hb : bad = true ∨ xs.length < 40) :
    Calls Try.prog 30 #[.pointer (some ⟨b, 0, none⟩)] w fun e w' => e = .returned (refV 0 zero32) ∧ Rd w' lo hi b xs true ∧ Tch w w' lo hi := by
  have hx1 := (Ext.refl w).alloc (.cells #[Value.int .i64 0, Value.int .u8 0, Value.int .u8 0, Value.int .u8 0, Value.int .u8 0, Value.int .u8 0, Value.int .u8 0, Value.int .u8 0, Value.int .u8 0, Value.int .u8 0, Value.int .u8 0, Value.int .u8 0, Value.int .u8 0, Value.int .u8 0, Value.int .u8 0, Value.int .u8 0, Value.int .u8 0, Value.int .u8 0, Value.int .u8 0, Value.int .u8 0, Value.int .u8 0, Value.int .u8 0, Value.int .u8 0, Value.int .u8 0, Value.int .u8 0, Value.int .u8 0, Value.int .u8 0, Value.int .u8 0, Value.int .u8 0, Value.int .u8 0, Value.int .u8 0, Value.int .u8 0, Value.int .u8 0] 26)
  have hk1 : Blk (w.alloc (.cells #[Value.int .i64 0, Value.int .u8 0, Value.int .u8 0, Value.int .u8 0, Value.int .u8 0, Value.int .u8 0, Value.int .u8 0, Value.int .u8 0, Value.int .u8 0, Value.int .u8 0, Value.int .u8 0, Value.int .u8 0, Value.int .u8 0, Value.int .u8 0, Value.int .u8 0, Value.int .u8 0, Value.int .u8 0, Value.int .u8 0, Value.int .u8 0, Value.int .u8 0, Value.int .u8 0, Value.int .u8 0, Value.int .u8 0, Value.int .u8 0, Value.int .u8 0, Value.int .u8 0, Value.int .u8 0, Value.int .u8 0, Value.int .u8 0, Value.int .u8 0, Value.int .u8 0, Value.int .u8 0, Value.int .u8 0] 26)) w.heap.size #[Value.int .i64 0, Value.int .u8 0, Value.int .u8 0, Value.int .u8 0, Value.int .u8 0, Value.int .u8 0, Value.int .u8 0, Value.int .u8 0, Value.int .u8 0, Value.int .u8 0, Value.int .u8 0, Value.int .u8 0, Value.int .u8 0, Value.int .u8 0, Value.int .u8 0, Value.int .u8 0, Value.int .u8 0, Value.int .u8 0, Value.int .u8 0, Value.int .u8 0, Value.int .u8 0, Value.int .u8 0, Value.int .u8 0, Value.int .u8 0, Value.int .u8 0, Value.int .u8 0, Value.int .u8 0, Value.int .u8 0, Value.int .u8 0, Value.int .u8 0, Value.int .u8 0, Value.int .u8 0, Value.int .u8 0] 26 := Blk.new w _ 26
  have HL := Aside0.mk (show hi ≤ w.heap.size by obtain ⟨_, _, h⟩ := h; exact h.size)
  have H := Aside0.mk (take_ref_bad _ lo hi b xs bad (h.ext hx1) hb)
  have HI := Aside0.mk (show (Try.prog.info? 26).map (·.size) = some (refC 0 zero32).length by kernel_rfl)
  have HZ := Aside0.mk (show 33 = (refC 0 zero32).length by rfl)
  have HK := Aside0.mk hk1
  have HX := Aside0.mk hx1
  clear h hb hk1 hx1
  go_enter Try.func30, Try.ntmps30
  go_wp2_with fail
  refine (H.out).mono ?_
  rintro e w1 ⟨rfl, hR, hT⟩
  have HK1 := Aside0.mk (hT.blk HK.out (by have := HL.out; omega))
  have HR1 := Aside0.mk hR
  have HT1 := Aside0.mk ((Tch.of_ext HX.out lo hi).trans hT)
  clear hR hT H HK HX
  go_wp2_with (first | ((with_reducible refine gate_store (ty := 26) rfl ?_); (refine store_at rfl 26 _ _ rfl w.heap.size (refC 0 zero32) rfl rfl _ 26 HK1.out HZ.out HI.out (one_ref _ _) ?_)) | fail)
  intro w4 hW4 hB4
  have HH4 := Aside0.mk (HR1.out.tch (Tch.of_wrote hW4 (Nat.le_refl _) (Nat.lt_succ_self _)) (.inl HL.out))
  have HT4 := Aside0.mk (HT1.out.far_ hW4 (Nat.le_refl _))
  clear hW4 HR1 HT1 HK1
  go_wp2
  (try simp only [Exit.inBlock, Exit.then])
  refine bodyPost_ret (results_cell_row rfl _ _ w.heap.size 26 (refC 0 zero32).toArray (0, 0) _ rfl hB4.is Try.underlying26 rfl (by simpa using HI.out)) rfl ?_
  exact ⟨rfl, HH4.out, HT4.out⟩

set_option maxHeartbeats 2000000 in
theorem rdref_ok (w : World) (lo hi b : Nat) (xs : List Int) (h : Rd w lo hi b xs false) (hb : isB xs) (hs : 40 ≤ xs.length) :
    Calls Try.prog 30 #[.pointer (some ⟨b, 0, none⟩)] w fun e w' => e = .returned (refV (numI (xs.take 8)) ((xs.take 40).drop 8)) ∧ Rd w' lo hi b (xs.drop 40) false ∧ Tch w w' lo hi := by
  have hx1 := (Ext.refl w).alloc (.cells #[Value.int .i64 0, Value.int .u8 0, Value.int .u8 0, Value.int .u8 0, Value.int .u8 0, Value.int .u8 0, Value.int .u8 0, Value.int .u8 0, Value.int .u8 0, Value.int .u8 0, Value.int .u8 0, Value.int .u8 0, Value.int .u8 0, Value.int .u8 0, Value.int .u8 0, Value.int .u8 0, Value.int .u8 0, Value.int .u8 0, Value.int .u8 0, Value.int .u8 0, Value.int .u8 0, Value.int .u8 0, Value.int .u8 0, Value.int .u8 0, Value.int .u8 0, Value.int .u8 0, Value.int .u8 0, Value.int .u8 0, Value.int .u8 0, Value.int .u8 0, Value.int .u8 0, Value.int .u8 0, Value.int .u8 0] 26)
  have hk1 : Blk (w.alloc (.cells #[Value.int .i64 0, Value.int .u8 0, Value.int .u8 0, Value.int .u8 0, Value.int .u8 0, Value.int .u8 0, Value.int .u8 0, Value.int .u8 0, Value.int .u8 0, Value.int .u8 0, Value.int .u8 0, Value.int .u8 0, Value.int .u8 0, Value.int .u8 0, Value.int .u8 0, Value.int .u8 0, Value.int .u8 0, Value.int .u8 0, Value.int .u8 0, Value.int .u8 0, Value.int .u8 0, Value.int .u8 0, Value.int .u8 0, Value.int .u8 0, Value.int .u8 0, Value.int .u8 0, Value.int .u8 0, Value.int .u8 0, Value.int .u8 0, Value.int .u8 0, Value.int .u8 0, Value.int .u8 0, Value.int .u8 0] 26)) w.heap.size #[Value.int .i64 0, Value.int .u8 0, Value.int .u8 0, Value.int .u8 0, Value.int .u8 0, Value.int .u8 0, Value.int .u8 0, Value.int .u8 0, Value.int .u8 0, Value.int .u8 0, Value.int .u8 0, Value.int .u8 0, Value.int .u8 0, Value.int .u8 0, Value.int .u8 0, Value.int .u8 0, Value.int .u8 0, Value.int .u8 0, Value.int .u8 0, Value.int .u8 0, Value.int .u8 0, Value.int .u8 0, Value.int .u8 0, Value.int .u8 0, Value.int .u8 0, Value.int .u8 0, Value.int .u8 0, Value.int .u8 0, Value.int .u8 0, Value.int .u8 0, Value.int .u8 0, Value.int .u8 0, Value.int .u8 0] 26 := Blk.new w _ 26
  have HL := Aside0.mk (show hi ≤ w.heap.size by obtain ⟨_, _, h⟩ := h; exact h.size)
  have H := Aside0.mk (take_ref_ok _ lo hi b xs (h.ext hx1) hb hs)
  have HI := Aside0.mk (show (Try.prog.info? 26).map (·.size) = some (refC (numI (xs.take 8)) ((xs.take 40).drop 8)).length by unfold refC; rw [List.length_cons, nums_length, List.length_drop, List.length_take, Nat.min_eq_left hs]; kernel_rfl)
  have HZ := Aside0.mk (show 33 = (refC (numI (xs.take 8)) ((xs.take 40).drop 8)).length by unfold refC; rw [List.length_cons, nums_length, List.length_drop, List.length_take, Nat.min_eq_left hs])
  have HK := Aside0.mk hk1
  have HX := Aside0.mk hx1
  clear h hb hs hk1 hx1
  go_enter Try.func30, Try.ntmps30
  go_wp2_with fail
  refine (H.out).mono ?_
  rintro e w1 ⟨rfl, hR, hT⟩
  have HK1 := Aside0.mk (hT.blk HK.out (by have := HL.out; omega))
  have HR1 := Aside0.mk hR
  have HT1 := Aside0.mk ((Tch.of_ext HX.out lo hi).trans hT)
  clear hR hT H HK HX
  go_wp2_with (first | ((with_reducible refine gate_store (ty := 26) rfl ?_); (refine store_at rfl 26 _ _ rfl w.heap.size (refC (numI (xs.take 8)) ((xs.take 40).drop 8)) rfl rfl _ 26 HK1.out HZ.out HI.out (one_ref _ _) ?_)) | fail)
  intro w4 hW4 hB4
  have HH4 := Aside0.mk (HR1.out.tch (Tch.of_wrote hW4 (Nat.le_refl _) (Nat.lt_succ_self _)) (.inl HL.out))
  have HT4 := Aside0.mk (HT1.out.far_ hW4 (Nat.le_refl _))
  clear hW4 HR1 HT1 HK1
  go_wp2
  (try simp only [Exit.inBlock, Exit.then])
  refine bodyPost_ret (results_cell_row rfl _ _ w.heap.size 26 (refC (numI (xs.take 8)) ((xs.take 40).drop 8)).toArray (0, 0) _ rfl hB4.is Try.underlying26 rfl (by simpa using HI.out)) rfl ?_
  exact ⟨rfl, HH4.out, HT4.out⟩
end Go.Proofs.Ythgdjgnbifakbaa.By
