/- The reader's digests and refs. -/
import Derived.Test.YthgdjgnbifakbaaDig
namespace Go.Proofs.Ythgdjgnbifakbaa.By
open Go.RowKit Go.Proofs.Ythgdjgnbifakbaa.Reg Go.Proofs.YthgdjgnbifakbaaW.PrintWords Go.Proofs.YthgdjgnbifakbaaW.PrintLast Go.Proofs.YthgdjgnbifakbaaW.PrintMore
set_option linter.unusedVariables false

def zero32 : List Int := List.replicate 32 0
theorem zero32_length : zero32.length = 32 := rfl
theorem zero32_isB : isB zero32 := by
  intro x hx
  rw [List.eq_of_mem_replicate hx]
  decide

theorem Tch.far_ {w w' w'' : World} {lo hi b : Nat} (h : Tch w w' lo hi) (k : Wrote w' w'' b) (hb : w.heap.size ≤ b) : Tch w w'' lo hi :=
  ⟨k.os.trans h.os, k.tape.trans h.tape, k.output.trans h.output, by rw [k.size]; exact h.size, fun i hi' hn => (k.block i (by omega)).trans (h.block i hi' hn)⟩

set_option maxHeartbeats 4000000 in
theorem take_sum_bad (w : World) (lo hi b : Nat) (xs : List Int) (bad : Bool) (h : Rd w lo hi b xs bad) (hb : bad = true ∨ xs.length < 32) :
    Calls Try.prog 62 #[.pointer (some ⟨b, 0, none⟩), .int .i64 32, .func (.func 63) #[] #[]] w fun e w' => e = .returned (sumV zero32) ∧ Rd w' lo hi b xs true ∧ Tch w w' lo hi := by
  obtain ⟨A, c, h⟩ := h
  have c0 := h.blk.cell 0 (v := .slice A xs.length c) rfl
  have c1 := h.blk.cell 1 (v := .bool bad) rfl
  have f0 := h.blk.free 0
  have f1 := h.blk.free 1
  cases bad with
  | true =>
    have HI := Aside0.mk (show (Try.prog.info? 24).map (·.size) = some (nums .u8 zero32).toArray.size by kernel_rfl)
    have hr1 := h.ext ((Ext.refl w).alloc (.cells #[Value.int .u8 0, Value.int .u8 0, Value.int .u8 0, Value.int .u8 0, Value.int .u8 0, Value.int .u8 0, Value.int .u8 0, Value.int .u8 0, Value.int .u8 0, Value.int .u8 0, Value.int .u8 0, Value.int .u8 0, Value.int .u8 0, Value.int .u8 0, Value.int .u8 0, Value.int .u8 0, Value.int .u8 0, Value.int .u8 0, Value.int .u8 0, Value.int .u8 0, Value.int .u8 0, Value.int .u8 0, Value.int .u8 0, Value.int .u8 0, Value.int .u8 0, Value.int .u8 0, Value.int .u8 0, Value.int .u8 0, Value.int .u8 0, Value.int .u8 0, Value.int .u8 0, Value.int .u8 0] 24))
    have hk1 : Blk (w.alloc (.cells #[Value.int .u8 0, Value.int .u8 0, Value.int .u8 0, Value.int .u8 0, Value.int .u8 0, Value.int .u8 0, Value.int .u8 0, Value.int .u8 0, Value.int .u8 0, Value.int .u8 0, Value.int .u8 0, Value.int .u8 0, Value.int .u8 0, Value.int .u8 0, Value.int .u8 0, Value.int .u8 0, Value.int .u8 0, Value.int .u8 0, Value.int .u8 0, Value.int .u8 0, Value.int .u8 0, Value.int .u8 0, Value.int .u8 0, Value.int .u8 0, Value.int .u8 0, Value.int .u8 0, Value.int .u8 0, Value.int .u8 0, Value.int .u8 0, Value.int .u8 0, Value.int .u8 0, Value.int .u8 0] 24)) w.heap.size #[Value.int .u8 0, Value.int .u8 0, Value.int .u8 0, Value.int .u8 0, Value.int .u8 0, Value.int .u8 0, Value.int .u8 0, Value.int .u8 0, Value.int .u8 0, Value.int .u8 0, Value.int .u8 0, Value.int .u8 0, Value.int .u8 0, Value.int .u8 0, Value.int .u8 0, Value.int .u8 0, Value.int .u8 0, Value.int .u8 0, Value.int .u8 0, Value.int .u8 0, Value.int .u8 0, Value.int .u8 0, Value.int .u8 0, Value.int .u8 0, Value.int .u8 0, Value.int .u8 0, Value.int .u8 0, Value.int .u8 0, Value.int .u8 0, Value.int .u8 0, Value.int .u8 0, Value.int .u8 0] 24 := Blk.new w _ 24
    have hx1 := (Ext.refl w).alloc (.cells #[Value.int .u8 0, Value.int .u8 0, Value.int .u8 0, Value.int .u8 0, Value.int .u8 0, Value.int .u8 0, Value.int .u8 0, Value.int .u8 0, Value.int .u8 0, Value.int .u8 0, Value.int .u8 0, Value.int .u8 0, Value.int .u8 0, Value.int .u8 0, Value.int .u8 0, Value.int .u8 0, Value.int .u8 0, Value.int .u8 0, Value.int .u8 0, Value.int .u8 0, Value.int .u8 0, Value.int .u8 0, Value.int .u8 0, Value.int .u8 0, Value.int .u8 0, Value.int .u8 0, Value.int .u8 0, Value.int .u8 0, Value.int .u8 0, Value.int .u8 0, Value.int .u8 0, Value.int .u8 0] 24)
    have hs1 : (w.alloc (.cells #[Value.int .u8 0, Value.int .u8 0, Value.int .u8 0, Value.int .u8 0, Value.int .u8 0, Value.int .u8 0, Value.int .u8 0, Value.int .u8 0, Value.int .u8 0, Value.int .u8 0, Value.int .u8 0, Value.int .u8 0, Value.int .u8 0, Value.int .u8 0, Value.int .u8 0, Value.int .u8 0, Value.int .u8 0, Value.int .u8 0, Value.int .u8 0, Value.int .u8 0, Value.int .u8 0, Value.int .u8 0, Value.int .u8 0, Value.int .u8 0, Value.int .u8 0, Value.int .u8 0, Value.int .u8 0, Value.int .u8 0, Value.int .u8 0, Value.int .u8 0, Value.int .u8 0, Value.int .u8 0] 24)).heap.size = w.heap.size + 1 := size_alloc _ _
    have hbw : b ≠ w.heap.size := by have := h.blk.lt; omega
    have hc0 := hr1.blk.cell 0 (v := .slice A xs.length c) rfl
    have hc1 := hr1.blk.cell 1 (v := .bool true) rfl
    have hf0 := hr1.blk.free 0
    have hf1 := hr1.blk.free 1
    obtain ⟨hr2, hw2⟩ := hr1.bad_ true
    have hk2 := hk1.wrote hw2 (Ne.symm hbw)
    have ht2 := (Tch.of_ext hx1 lo hi).trans (Tch.of_wrote hw2 h.low h.high)
    have hs2 : ((w.alloc (.cells #[Value.int .u8 0, Value.int .u8 0, Value.int .u8 0, Value.int .u8 0, Value.int .u8 0, Value.int .u8 0, Value.int .u8 0, Value.int .u8 0, Value.int .u8 0, Value.int .u8 0, Value.int .u8 0, Value.int .u8 0, Value.int .u8 0, Value.int .u8 0, Value.int .u8 0, Value.int .u8 0, Value.int .u8 0, Value.int .u8 0, Value.int .u8 0, Value.int .u8 0, Value.int .u8 0, Value.int .u8 0, Value.int .u8 0, Value.int .u8 0, Value.int .u8 0, Value.int .u8 0, Value.int .u8 0, Value.int .u8 0, Value.int .u8 0, Value.int .u8 0, Value.int .u8 0, Value.int .u8 0] 24)).setCell ⟨b, 1, none⟩ (.bool true)).heap.size = w.heap.size + 1 := by rw [hw2.size, hs1]
    have hx3 := (Ext.refl ((w.alloc (.cells #[Value.int .u8 0, Value.int .u8 0, Value.int .u8 0, Value.int .u8 0, Value.int .u8 0, Value.int .u8 0, Value.int .u8 0, Value.int .u8 0, Value.int .u8 0, Value.int .u8 0, Value.int .u8 0, Value.int .u8 0, Value.int .u8 0, Value.int .u8 0, Value.int .u8 0, Value.int .u8 0, Value.int .u8 0, Value.int .u8 0, Value.int .u8 0, Value.int .u8 0, Value.int .u8 0, Value.int .u8 0, Value.int .u8 0, Value.int .u8 0, Value.int .u8 0, Value.int .u8 0, Value.int .u8 0, Value.int .u8 0, Value.int .u8 0, Value.int .u8 0, Value.int .u8 0, Value.int .u8 0] 24)).setCell ⟨b, 1, none⟩ (.bool true))).alloc (.cells #[Value.int .u8 0, Value.int .u8 0, Value.int .u8 0, Value.int .u8 0, Value.int .u8 0, Value.int .u8 0, Value.int .u8 0, Value.int .u8 0, Value.int .u8 0, Value.int .u8 0, Value.int .u8 0, Value.int .u8 0, Value.int .u8 0, Value.int .u8 0, Value.int .u8 0, Value.int .u8 0, Value.int .u8 0, Value.int .u8 0, Value.int .u8 0, Value.int .u8 0, Value.int .u8 0, Value.int .u8 0, Value.int .u8 0, Value.int .u8 0, Value.int .u8 0, Value.int .u8 0, Value.int .u8 0, Value.int .u8 0, Value.int .u8 0, Value.int .u8 0, Value.int .u8 0, Value.int .u8 0] 24)
    have hk3 := hk2.ext hx3
    have hr3 := hr2.ext hx3
    have ht3 := ht2.trans (Tch.of_ext hx3 lo hi)
    have hn3 := Blk.new ((w.alloc (.cells #[Value.int .u8 0, Value.int .u8 0, Value.int .u8 0, Value.int .u8 0, Value.int .u8 0, Value.int .u8 0, Value.int .u8 0, Value.int .u8 0, Value.int .u8 0, Value.int .u8 0, Value.int .u8 0, Value.int .u8 0, Value.int .u8 0, Value.int .u8 0, Value.int .u8 0, Value.int .u8 0, Value.int .u8 0, Value.int .u8 0, Value.int .u8 0, Value.int .u8 0, Value.int .u8 0, Value.int .u8 0, Value.int .u8 0, Value.int .u8 0, Value.int .u8 0, Value.int .u8 0, Value.int .u8 0, Value.int .u8 0, Value.int .u8 0, Value.int .u8 0, Value.int .u8 0, Value.int .u8 0] 24)).setCell ⟨b, 1, none⟩ (.bool true)) #[Value.int .u8 0, Value.int .u8 0, Value.int .u8 0, Value.int .u8 0, Value.int .u8 0, Value.int .u8 0, Value.int .u8 0, Value.int .u8 0, Value.int .u8 0, Value.int .u8 0, Value.int .u8 0, Value.int .u8 0, Value.int .u8 0, Value.int .u8 0, Value.int .u8 0, Value.int .u8 0, Value.int .u8 0, Value.int .u8 0, Value.int .u8 0, Value.int .u8 0, Value.int .u8 0, Value.int .u8 0, Value.int .u8 0, Value.int .u8 0, Value.int .u8 0, Value.int .u8 0, Value.int .u8 0, Value.int .u8 0, Value.int .u8 0, Value.int .u8 0, Value.int .u8 0, Value.int .u8 0] 24
    rw [hs2] at hn3
    have HH3 := Aside0.mk hr3
    have HT3 := Aside0.mk ht3
    have HK3 := Aside0.mk hk3
    have HN3 := Aside0.mk hn3
    have HL := Aside0.mk (show lo ≤ b ∧ b < hi ∧ hi ≤ w.heap.size from ⟨h.low, h.high, h.size⟩)
    clear hr1 hk1 hx1 hr2 hw2 hk2 ht2 hs2 hx3 hk3 hr3 ht3 hn3 h hb hs1 c0 c1 f0 f1
    go_enter Try.func62, Try.ntmps62
    go_wp2_with (first | ((with_reducible refine gate_load (ty := 24) rfl ?_); (refine load_at rfl 24 _ rfl (w.heap.size + 1) 0 rfl (nums .u8 zero32) _ (HN3.out.range 0 (nums .u8 zero32) [] rfl) Try.underlying24 rfl (by kernel_rfl) ?_)) | ((with_reducible refine gate_store (ty := 24) rfl ?_); (refine store_at rfl 24 _ _ rfl w.heap.size (nums .u8 zero32) rfl rfl _ 24 HK3.out rfl (by kernel_rfl) (one_cells _ _) ?_)) | fail)
    intro w4 hW4 hB4
    have HH4 := Aside0.mk (HH3.out.tch (Tch.of_wrote hW4 (Nat.le_refl _) (Nat.lt_succ_self _)) (.inl HL.out.2.2))
    have HT4 := Aside0.mk (HT3.out.far_ hW4 (Nat.le_refl _))
    clear hW4 HH3 HT3 HK3 HN3
    go_wp2
    (try simp only [Exit.inBlock, Exit.then])
    refine bodyPost_ret (results_cell_row rfl _ _ w.heap.size 24 (nums .u8 zero32).toArray (0, 0) _ rfl hB4.is Try.underlying24 rfl HI.out) rfl ?_
    exact ⟨rfl, ⟨A, c, HH4.out⟩, HT4.out⟩
  | false =>
    have hs : xs.length < 32 := by simpa using hb
    have hd : decide ((xs.length : Int) < 32) = true := decide_eq_true (by omega)
    have hz : ((xs.length : Int) < 32) = True := eq_true (by omega)
    clear hs
    have HI := Aside0.mk (show (Try.prog.info? 24).map (·.size) = some (nums .u8 zero32).toArray.size by kernel_rfl)
    have hr1 := h.ext ((Ext.refl w).alloc (.cells #[Value.int .u8 0, Value.int .u8 0, Value.int .u8 0, Value.int .u8 0, Value.int .u8 0, Value.int .u8 0, Value.int .u8 0, Value.int .u8 0, Value.int .u8 0, Value.int .u8 0, Value.int .u8 0, Value.int .u8 0, Value.int .u8 0, Value.int .u8 0, Value.int .u8 0, Value.int .u8 0, Value.int .u8 0, Value.int .u8 0, Value.int .u8 0, Value.int .u8 0, Value.int .u8 0, Value.int .u8 0, Value.int .u8 0, Value.int .u8 0, Value.int .u8 0, Value.int .u8 0, Value.int .u8 0, Value.int .u8 0, Value.int .u8 0, Value.int .u8 0, Value.int .u8 0, Value.int .u8 0] 24))
    have hk1 : Blk (w.alloc (.cells #[Value.int .u8 0, Value.int .u8 0, Value.int .u8 0, Value.int .u8 0, Value.int .u8 0, Value.int .u8 0, Value.int .u8 0, Value.int .u8 0, Value.int .u8 0, Value.int .u8 0, Value.int .u8 0, Value.int .u8 0, Value.int .u8 0, Value.int .u8 0, Value.int .u8 0, Value.int .u8 0, Value.int .u8 0, Value.int .u8 0, Value.int .u8 0, Value.int .u8 0, Value.int .u8 0, Value.int .u8 0, Value.int .u8 0, Value.int .u8 0, Value.int .u8 0, Value.int .u8 0, Value.int .u8 0, Value.int .u8 0, Value.int .u8 0, Value.int .u8 0, Value.int .u8 0, Value.int .u8 0] 24)) w.heap.size #[Value.int .u8 0, Value.int .u8 0, Value.int .u8 0, Value.int .u8 0, Value.int .u8 0, Value.int .u8 0, Value.int .u8 0, Value.int .u8 0, Value.int .u8 0, Value.int .u8 0, Value.int .u8 0, Value.int .u8 0, Value.int .u8 0, Value.int .u8 0, Value.int .u8 0, Value.int .u8 0, Value.int .u8 0, Value.int .u8 0, Value.int .u8 0, Value.int .u8 0, Value.int .u8 0, Value.int .u8 0, Value.int .u8 0, Value.int .u8 0, Value.int .u8 0, Value.int .u8 0, Value.int .u8 0, Value.int .u8 0, Value.int .u8 0, Value.int .u8 0, Value.int .u8 0, Value.int .u8 0] 24 := Blk.new w _ 24
    have hx1 := (Ext.refl w).alloc (.cells #[Value.int .u8 0, Value.int .u8 0, Value.int .u8 0, Value.int .u8 0, Value.int .u8 0, Value.int .u8 0, Value.int .u8 0, Value.int .u8 0, Value.int .u8 0, Value.int .u8 0, Value.int .u8 0, Value.int .u8 0, Value.int .u8 0, Value.int .u8 0, Value.int .u8 0, Value.int .u8 0, Value.int .u8 0, Value.int .u8 0, Value.int .u8 0, Value.int .u8 0, Value.int .u8 0, Value.int .u8 0, Value.int .u8 0, Value.int .u8 0, Value.int .u8 0, Value.int .u8 0, Value.int .u8 0, Value.int .u8 0, Value.int .u8 0, Value.int .u8 0, Value.int .u8 0, Value.int .u8 0] 24)
    have hs1 : (w.alloc (.cells #[Value.int .u8 0, Value.int .u8 0, Value.int .u8 0, Value.int .u8 0, Value.int .u8 0, Value.int .u8 0, Value.int .u8 0, Value.int .u8 0, Value.int .u8 0, Value.int .u8 0, Value.int .u8 0, Value.int .u8 0, Value.int .u8 0, Value.int .u8 0, Value.int .u8 0, Value.int .u8 0, Value.int .u8 0, Value.int .u8 0, Value.int .u8 0, Value.int .u8 0, Value.int .u8 0, Value.int .u8 0, Value.int .u8 0, Value.int .u8 0, Value.int .u8 0, Value.int .u8 0, Value.int .u8 0, Value.int .u8 0, Value.int .u8 0, Value.int .u8 0, Value.int .u8 0, Value.int .u8 0] 24)).heap.size = w.heap.size + 1 := size_alloc _ _
    have hbw : b ≠ w.heap.size := by have := h.blk.lt; omega
    have hc0 := hr1.blk.cell 0 (v := .slice A xs.length c) rfl
    have hc1 := hr1.blk.cell 1 (v := .bool false) rfl
    have hf0 := hr1.blk.free 0
    have hf1 := hr1.blk.free 1
    obtain ⟨hr2, hw2⟩ := hr1.bad_ true
    have hk2 := hk1.wrote hw2 (Ne.symm hbw)
    have ht2 := (Tch.of_ext hx1 lo hi).trans (Tch.of_wrote hw2 h.low h.high)
    have hs2 : ((w.alloc (.cells #[Value.int .u8 0, Value.int .u8 0, Value.int .u8 0, Value.int .u8 0, Value.int .u8 0, Value.int .u8 0, Value.int .u8 0, Value.int .u8 0, Value.int .u8 0, Value.int .u8 0, Value.int .u8 0, Value.int .u8 0, Value.int .u8 0, Value.int .u8 0, Value.int .u8 0, Value.int .u8 0, Value.int .u8 0, Value.int .u8 0, Value.int .u8 0, Value.int .u8 0, Value.int .u8 0, Value.int .u8 0, Value.int .u8 0, Value.int .u8 0, Value.int .u8 0, Value.int .u8 0, Value.int .u8 0, Value.int .u8 0, Value.int .u8 0, Value.int .u8 0, Value.int .u8 0, Value.int .u8 0] 24)).setCell ⟨b, 1, none⟩ (.bool true)).heap.size = w.heap.size + 1 := by rw [hw2.size, hs1]
    have hx3 := (Ext.refl ((w.alloc (.cells #[Value.int .u8 0, Value.int .u8 0, Value.int .u8 0, Value.int .u8 0, Value.int .u8 0, Value.int .u8 0, Value.int .u8 0, Value.int .u8 0, Value.int .u8 0, Value.int .u8 0, Value.int .u8 0, Value.int .u8 0, Value.int .u8 0, Value.int .u8 0, Value.int .u8 0, Value.int .u8 0, Value.int .u8 0, Value.int .u8 0, Value.int .u8 0, Value.int .u8 0, Value.int .u8 0, Value.int .u8 0, Value.int .u8 0, Value.int .u8 0, Value.int .u8 0, Value.int .u8 0, Value.int .u8 0, Value.int .u8 0, Value.int .u8 0, Value.int .u8 0, Value.int .u8 0, Value.int .u8 0] 24)).setCell ⟨b, 1, none⟩ (.bool true))).alloc (.cells #[Value.int .u8 0, Value.int .u8 0, Value.int .u8 0, Value.int .u8 0, Value.int .u8 0, Value.int .u8 0, Value.int .u8 0, Value.int .u8 0, Value.int .u8 0, Value.int .u8 0, Value.int .u8 0, Value.int .u8 0, Value.int .u8 0, Value.int .u8 0, Value.int .u8 0, Value.int .u8 0, Value.int .u8 0, Value.int .u8 0, Value.int .u8 0, Value.int .u8 0, Value.int .u8 0, Value.int .u8 0, Value.int .u8 0, Value.int .u8 0, Value.int .u8 0, Value.int .u8 0, Value.int .u8 0, Value.int .u8 0, Value.int .u8 0, Value.int .u8 0, Value.int .u8 0, Value.int .u8 0] 24)
    have hk3 := hk2.ext hx3
    have hr3 := hr2.ext hx3
    have ht3 := ht2.trans (Tch.of_ext hx3 lo hi)
    have hn3 := Blk.new ((w.alloc (.cells #[Value.int .u8 0, Value.int .u8 0, Value.int .u8 0, Value.int .u8 0, Value.int .u8 0, Value.int .u8 0, Value.int .u8 0, Value.int .u8 0, Value.int .u8 0, Value.int .u8 0, Value.int .u8 0, Value.int .u8 0, Value.int .u8 0, Value.int .u8 0, Value.int .u8 0, Value.int .u8 0, Value.int .u8 0, Value.int .u8 0, Value.int .u8 0, Value.int .u8 0, Value.int .u8 0, Value.int .u8 0, Value.int .u8 0, Value.int .u8 0, Value.int .u8 0, Value.int .u8 0, Value.int .u8 0, Value.int .u8 0, Value.int .u8 0, Value.int .u8 0, Value.int .u8 0, Value.int .u8 0] 24)).setCell ⟨b, 1, none⟩ (.bool true)) #[Value.int .u8 0, Value.int .u8 0, Value.int .u8 0, Value.int .u8 0, Value.int .u8 0, Value.int .u8 0, Value.int .u8 0, Value.int .u8 0, Value.int .u8 0, Value.int .u8 0, Value.int .u8 0, Value.int .u8 0, Value.int .u8 0, Value.int .u8 0, Value.int .u8 0, Value.int .u8 0, Value.int .u8 0, Value.int .u8 0, Value.int .u8 0, Value.int .u8 0, Value.int .u8 0, Value.int .u8 0, Value.int .u8 0, Value.int .u8 0, Value.int .u8 0, Value.int .u8 0, Value.int .u8 0, Value.int .u8 0, Value.int .u8 0, Value.int .u8 0, Value.int .u8 0, Value.int .u8 0] 24
    rw [hs2] at hn3
    have HH3 := Aside0.mk hr3
    have HT3 := Aside0.mk ht3
    have HK3 := Aside0.mk hk3
    have HN3 := Aside0.mk hn3
    have HL := Aside0.mk (show lo ≤ b ∧ b < hi ∧ hi ≤ w.heap.size from ⟨h.low, h.high, h.size⟩)
    clear hr1 hk1 hx1 hr2 hw2 hk2 ht2 hs2 hx3 hk3 hr3 ht3 hn3 h hb hs1 c0 c1 f0 f1
    go_enter Try.func62, Try.ntmps62
    go_wp2_with (first | ((with_reducible refine gate_load (ty := 24) rfl ?_); (refine load_at rfl 24 _ rfl (w.heap.size + 1) 0 rfl (nums .u8 zero32) _ (HN3.out.range 0 (nums .u8 zero32) [] rfl) Try.underlying24 rfl (by kernel_rfl) ?_)) | ((with_reducible refine gate_store (ty := 24) rfl ?_); (refine store_at rfl 24 _ _ rfl w.heap.size (nums .u8 zero32) rfl rfl _ 24 HK3.out rfl (by kernel_rfl) (one_cells _ _) ?_)) | fail)
    intro w4 hW4 hB4
    have HH4 := Aside0.mk (HH3.out.tch (Tch.of_wrote hW4 (Nat.le_refl _) (Nat.lt_succ_self _)) (.inl HL.out.2.2))
    have HT4 := Aside0.mk (HT3.out.far_ hW4 (Nat.le_refl _))
    clear hW4 HH3 HT3 HK3 HN3
    go_wp2
    (try simp only [Exit.inBlock, Exit.then])
    refine bodyPost_ret (results_cell_row rfl _ _ w.heap.size 24 (nums .u8 zero32).toArray (0, 0) _ rfl hB4.is Try.underlying24 rfl HI.out) rfl ?_
    exact ⟨rfl, ⟨A, c, HH4.out⟩, HT4.out⟩

set_option maxHeartbeats 4000000 in
theorem take_sum_ok (w : World) (lo hi b : Nat) (xs : List Int) (h : Rd w lo hi b xs false) (hb : isB xs) (hs : 32 ≤ xs.length) :
    Calls Try.prog 62 #[.pointer (some ⟨b, 0, none⟩), .int .i64 32, .func (.func 63) #[] #[]] w fun e w' => e = .returned (sumV (xs.take 32)) ∧ Rd w' lo hi b (xs.drop 32) false ∧ Tch w w' lo hi := by
  obtain ⟨A, c, h⟩ := h
  have hx1 := (Ext.refl w).alloc (.cells #[Value.int .u8 0, Value.int .u8 0, Value.int .u8 0, Value.int .u8 0, Value.int .u8 0, Value.int .u8 0, Value.int .u8 0, Value.int .u8 0, Value.int .u8 0, Value.int .u8 0, Value.int .u8 0, Value.int .u8 0, Value.int .u8 0, Value.int .u8 0, Value.int .u8 0, Value.int .u8 0, Value.int .u8 0, Value.int .u8 0, Value.int .u8 0, Value.int .u8 0, Value.int .u8 0, Value.int .u8 0, Value.int .u8 0, Value.int .u8 0, Value.int .u8 0, Value.int .u8 0, Value.int .u8 0, Value.int .u8 0, Value.int .u8 0, Value.int .u8 0, Value.int .u8 0, Value.int .u8 0] 24)
  have hk1 : Blk (w.alloc (.cells #[Value.int .u8 0, Value.int .u8 0, Value.int .u8 0, Value.int .u8 0, Value.int .u8 0, Value.int .u8 0, Value.int .u8 0, Value.int .u8 0, Value.int .u8 0, Value.int .u8 0, Value.int .u8 0, Value.int .u8 0, Value.int .u8 0, Value.int .u8 0, Value.int .u8 0, Value.int .u8 0, Value.int .u8 0, Value.int .u8 0, Value.int .u8 0, Value.int .u8 0, Value.int .u8 0, Value.int .u8 0, Value.int .u8 0, Value.int .u8 0, Value.int .u8 0, Value.int .u8 0, Value.int .u8 0, Value.int .u8 0, Value.int .u8 0, Value.int .u8 0, Value.int .u8 0, Value.int .u8 0] 24)) w.heap.size #[Value.int .u8 0, Value.int .u8 0, Value.int .u8 0, Value.int .u8 0, Value.int .u8 0, Value.int .u8 0, Value.int .u8 0, Value.int .u8 0, Value.int .u8 0, Value.int .u8 0, Value.int .u8 0, Value.int .u8 0, Value.int .u8 0, Value.int .u8 0, Value.int .u8 0, Value.int .u8 0, Value.int .u8 0, Value.int .u8 0, Value.int .u8 0, Value.int .u8 0, Value.int .u8 0, Value.int .u8 0, Value.int .u8 0, Value.int .u8 0, Value.int .u8 0, Value.int .u8 0, Value.int .u8 0, Value.int .u8 0, Value.int .u8 0, Value.int .u8 0, Value.int .u8 0, Value.int .u8 0] 24 := Blk.new w _ 24
  have hr1 := h.ext hx1
  have hbw : b ≠ w.heap.size := by have := h.blk.lt; omega
  have HL := Aside0.mk (show lo ≤ b ∧ b < hi ∧ hi ≤ w.heap.size from ⟨h.low, h.high, h.size⟩)
  have c0 := hr1.blk.cell 0 (v := .slice A xs.length c) rfl
  have c1 := hr1.blk.cell 1 (v := .bool false) rfl
  have f0 := hr1.blk.free 0
  have f1 := hr1.blk.free 1
  obtain ⟨hd, hw⟩ := hr1.drop 32 hs
  have hk2 := hk1.wrote hw (Ne.symm hbw)
  have hT := (Tch.of_ext hx1 lo hi).trans (Tch.of_wrote hw h.low h.high)
  have hq : Kd.C kb ((w.alloc (.cells #[Value.int .u8 0, Value.int .u8 0, Value.int .u8 0, Value.int .u8 0, Value.int .u8 0, Value.int .u8 0, Value.int .u8 0, Value.int .u8 0, Value.int .u8 0, Value.int .u8 0, Value.int .u8 0, Value.int .u8 0, Value.int .u8 0, Value.int .u8 0, Value.int .u8 0, Value.int .u8 0, Value.int .u8 0, Value.int .u8 0, Value.int .u8 0, Value.int .u8 0, Value.int .u8 0, Value.int .u8 0, Value.int .u8 0, Value.int .u8 0, Value.int .u8 0, Value.int .u8 0, Value.int .u8 0, Value.int .u8 0, Value.int .u8 0, Value.int .u8 0, Value.int .u8 0, Value.int .u8 0] 24)).setCell ⟨b, 0, none⟩ (.slice (if c = 32 then A else A.map (·.add (32 * 1))) (xs.length - 32) (c - 32))) A 32 (xs.take 32) := by
    have := kb_stays (Kd.C_take hr1.row hs) (fun a ha => hw.block _ (hr1.far a ha).2.2)
    rwa [show (xs.take 32).length = 32 by rw [List.length_take]; omega] at this
  obtain ⟨i0, hi0, _, hsz, _⟩ := info_parts PPackPuts.info5
  have hcut := cut_to (P := Try.prog) 22 5 .i64 Try.underlying22 hi0 A xs.length c 32 (by decide) (by omega) h.cap
  have hcut2 := cut_from (P := Try.prog) 22 5 .i64 Try.underlying22 hi0 1 hsz A xs.length c 32 (by decide) (by omega)
  rw [show (32 : Int).toNat = 32 from rfl] at hcut hcut2
  have hc := Nat.le_trans hs h.cap
  generalize (if c = 32 then A else A.map (·.add (32 * 1))) = A' at hd hw hT hq hcut2 hk2
  generalize xs.length - 32 = n' at hd hw hT hq hcut2 hk2
  generalize c - 32 = c' at hd hw hT hq hcut2 hk2
  have HD := Aside0.mk hd
  have HQ := Aside0.mk hq
  have HB := Aside0.mk hb
  have HS := Aside0.mk hs
  have HI := Aside0.mk (show (Try.prog.info? 24).map (·.size) = some (nums .u8 (xs.take 32)).length by rw [nums_length, List.length_take, Nat.min_eq_left hs]; kernel_rfl)
  have HZ := Aside0.mk (show 32 = (nums .u8 (xs.take 32)).length by rw [nums_length, List.length_take, Nat.min_eq_left hs])
  have hz : ((xs.length : Int) < 32) = False := eq_false (by omega)
  have hzd : decide ((xs.length : Int) < 32) = false := decide_eq_false (by omega)
  clear h hd hq hw hb hi0 hsz hs hx1 hk1 hr1 hbw
  go_enter Try.func62, Try.ntmps62
  go_wp2_with fail
  refine (digest_calls _ A c 32 (xs.take 32) rfl HQ.out).mono ?_
  rintro e w1 ⟨rfl, hE⟩
  have HT := Aside0.mk (hT.trans (Tch.of_ext hE lo hi))
  have HD1 := Aside0.mk (HD.out.ext hE)
  have HK1 := Aside0.mk (hk2.ext hE)
  clear hT hE HD HQ hk2
  go_wp2_with (first | ((with_reducible refine gate_store (ty := 24) rfl ?_); (refine store_at rfl 24 _ _ rfl w.heap.size (nums .u8 (xs.take 32)) rfl rfl _ 24 HK1.out HZ.out HI.out (one_cells _ _) ?_)) | fail)
  intro w4 hW4 hB4
  have HH4 := Aside0.mk (HD1.out.tch (Tch.of_wrote hW4 (Nat.le_refl _) (Nat.lt_succ_self _)) (.inl HL.out.2.2))
  have HT4 := Aside0.mk (HT.out.far_ hW4 (Nat.le_refl _))
  clear hW4 HD1 HT HK1
  go_wp2
  (try simp only [Exit.inBlock, Exit.then])
  refine bodyPost_ret (results_cell_row rfl _ _ w.heap.size 24 (nums .u8 (xs.take 32)).toArray (0, 0) _ rfl hB4.is Try.underlying24 rfl (by simpa using HI.out)) rfl ?_
  exact ⟨rfl, ⟨_, _, HH4.out⟩, HT4.out⟩

theorem getref_at (w : World) (A : Option Addr) (c n : Nat) (ys xs : List Int) (hn : n = 40) (hc : n ≤ c) (hb : isB xs) (hr : Kd.C kb w A n xs) (h8 : xs.take 8 = ys.take 8) :
    Calls Try.prog 65 #[.slice A n c] w fun e w' => e = .returned (refV (numI (ys.take 8)) (xs.drop 8)) ∧ Ext w w' := by
  rw [← h8]
  exact getref_calls w A c n xs hn hc hb hr

set_option maxHeartbeats 4000000 in
theorem take_ref_bad (w : World) (lo hi b : Nat) (xs : List Int) (bad : Bool) (h : Rd w lo hi b xs bad) (hb : bad = true ∨ xs.length < 40) :
    Calls Try.prog 64 #[.pointer (some ⟨b, 0, none⟩), .int .i64 40, .func (.func 65) #[] #[]] w fun e w' => e = .returned (refV 0 zero32) ∧ Rd w' lo hi b xs true ∧ Tch w w' lo hi := by
  obtain ⟨A, c, h⟩ := h
  have c0 := h.blk.cell 0 (v := .slice A xs.length c) rfl
  have c1 := h.blk.cell 1 (v := .bool bad) rfl
  have f0 := h.blk.free 0
  have f1 := h.blk.free 1
  cases bad with
  | true =>
    have HI := Aside0.mk (show (Try.prog.info? 26).map (·.size) = some (refC 0 zero32).toArray.size by kernel_rfl)
    have hr1 := h.ext ((Ext.refl w).alloc (.cells #[Value.int .i64 0, Value.int .u8 0, Value.int .u8 0, Value.int .u8 0, Value.int .u8 0, Value.int .u8 0, Value.int .u8 0, Value.int .u8 0, Value.int .u8 0, Value.int .u8 0, Value.int .u8 0, Value.int .u8 0, Value.int .u8 0, Value.int .u8 0, Value.int .u8 0, Value.int .u8 0, Value.int .u8 0, Value.int .u8 0, Value.int .u8 0, Value.int .u8 0, Value.int .u8 0, Value.int .u8 0, Value.int .u8 0, Value.int .u8 0, Value.int .u8 0, Value.int .u8 0, Value.int .u8 0, Value.int .u8 0, Value.int .u8 0, Value.int .u8 0, Value.int .u8 0, Value.int .u8 0, Value.int .u8 0] 26))
    have hk1 : Blk (w.alloc (.cells #[Value.int .i64 0, Value.int .u8 0, Value.int .u8 0, Value.int .u8 0, Value.int .u8 0, Value.int .u8 0, Value.int .u8 0, Value.int .u8 0, Value.int .u8 0, Value.int .u8 0, Value.int .u8 0, Value.int .u8 0, Value.int .u8 0, Value.int .u8 0, Value.int .u8 0, Value.int .u8 0, Value.int .u8 0, Value.int .u8 0, Value.int .u8 0, Value.int .u8 0, Value.int .u8 0, Value.int .u8 0, Value.int .u8 0, Value.int .u8 0, Value.int .u8 0, Value.int .u8 0, Value.int .u8 0, Value.int .u8 0, Value.int .u8 0, Value.int .u8 0, Value.int .u8 0, Value.int .u8 0, Value.int .u8 0] 26)) w.heap.size #[Value.int .i64 0, Value.int .u8 0, Value.int .u8 0, Value.int .u8 0, Value.int .u8 0, Value.int .u8 0, Value.int .u8 0, Value.int .u8 0, Value.int .u8 0, Value.int .u8 0, Value.int .u8 0, Value.int .u8 0, Value.int .u8 0, Value.int .u8 0, Value.int .u8 0, Value.int .u8 0, Value.int .u8 0, Value.int .u8 0, Value.int .u8 0, Value.int .u8 0, Value.int .u8 0, Value.int .u8 0, Value.int .u8 0, Value.int .u8 0, Value.int .u8 0, Value.int .u8 0, Value.int .u8 0, Value.int .u8 0, Value.int .u8 0, Value.int .u8 0, Value.int .u8 0, Value.int .u8 0, Value.int .u8 0] 26 := Blk.new w _ 26
    have hx1 := (Ext.refl w).alloc (.cells #[Value.int .i64 0, Value.int .u8 0, Value.int .u8 0, Value.int .u8 0, Value.int .u8 0, Value.int .u8 0, Value.int .u8 0, Value.int .u8 0, Value.int .u8 0, Value.int .u8 0, Value.int .u8 0, Value.int .u8 0, Value.int .u8 0, Value.int .u8 0, Value.int .u8 0, Value.int .u8 0, Value.int .u8 0, Value.int .u8 0, Value.int .u8 0, Value.int .u8 0, Value.int .u8 0, Value.int .u8 0, Value.int .u8 0, Value.int .u8 0, Value.int .u8 0, Value.int .u8 0, Value.int .u8 0, Value.int .u8 0, Value.int .u8 0, Value.int .u8 0, Value.int .u8 0, Value.int .u8 0, Value.int .u8 0] 26)
    have hs1 : (w.alloc (.cells #[Value.int .i64 0, Value.int .u8 0, Value.int .u8 0, Value.int .u8 0, Value.int .u8 0, Value.int .u8 0, Value.int .u8 0, Value.int .u8 0, Value.int .u8 0, Value.int .u8 0, Value.int .u8 0, Value.int .u8 0, Value.int .u8 0, Value.int .u8 0, Value.int .u8 0, Value.int .u8 0, Value.int .u8 0, Value.int .u8 0, Value.int .u8 0, Value.int .u8 0, Value.int .u8 0, Value.int .u8 0, Value.int .u8 0, Value.int .u8 0, Value.int .u8 0, Value.int .u8 0, Value.int .u8 0, Value.int .u8 0, Value.int .u8 0, Value.int .u8 0, Value.int .u8 0, Value.int .u8 0, Value.int .u8 0] 26)).heap.size = w.heap.size + 1 := size_alloc _ _
    have hbw : b ≠ w.heap.size := by have := h.blk.lt; omega
    have hc0 := hr1.blk.cell 0 (v := .slice A xs.length c) rfl
    have hc1 := hr1.blk.cell 1 (v := .bool true) rfl
    have hf0 := hr1.blk.free 0
    have hf1 := hr1.blk.free 1
    obtain ⟨hr2, hw2⟩ := hr1.bad_ true
    have hk2 := hk1.wrote hw2 (Ne.symm hbw)
    have ht2 := (Tch.of_ext hx1 lo hi).trans (Tch.of_wrote hw2 h.low h.high)
    have hs2 : ((w.alloc (.cells #[Value.int .i64 0, Value.int .u8 0, Value.int .u8 0, Value.int .u8 0, Value.int .u8 0, Value.int .u8 0, Value.int .u8 0, Value.int .u8 0, Value.int .u8 0, Value.int .u8 0, Value.int .u8 0, Value.int .u8 0, Value.int .u8 0, Value.int .u8 0, Value.int .u8 0, Value.int .u8 0, Value.int .u8 0, Value.int .u8 0, Value.int .u8 0, Value.int .u8 0, Value.int .u8 0, Value.int .u8 0, Value.int .u8 0, Value.int .u8 0, Value.int .u8 0, Value.int .u8 0, Value.int .u8 0, Value.int .u8 0, Value.int .u8 0, Value.int .u8 0, Value.int .u8 0, Value.int .u8 0, Value.int .u8 0] 26)).setCell ⟨b, 1, none⟩ (.bool true)).heap.size = w.heap.size + 1 := by rw [hw2.size, hs1]
    have hx3 := (Ext.refl ((w.alloc (.cells #[Value.int .i64 0, Value.int .u8 0, Value.int .u8 0, Value.int .u8 0, Value.int .u8 0, Value.int .u8 0, Value.int .u8 0, Value.int .u8 0, Value.int .u8 0, Value.int .u8 0, Value.int .u8 0, Value.int .u8 0, Value.int .u8 0, Value.int .u8 0, Value.int .u8 0, Value.int .u8 0, Value.int .u8 0, Value.int .u8 0, Value.int .u8 0, Value.int .u8 0, Value.int .u8 0, Value.int .u8 0, Value.int .u8 0, Value.int .u8 0, Value.int .u8 0, Value.int .u8 0, Value.int .u8 0, Value.int .u8 0, Value.int .u8 0, Value.int .u8 0, Value.int .u8 0, Value.int .u8 0, Value.int .u8 0] 26)).setCell ⟨b, 1, none⟩ (.bool true))).alloc (.cells #[Value.int .i64 0, Value.int .u8 0, Value.int .u8 0, Value.int .u8 0, Value.int .u8 0, Value.int .u8 0, Value.int .u8 0, Value.int .u8 0, Value.int .u8 0, Value.int .u8 0, Value.int .u8 0, Value.int .u8 0, Value.int .u8 0, Value.int .u8 0, Value.int .u8 0, Value.int .u8 0, Value.int .u8 0, Value.int .u8 0, Value.int .u8 0, Value.int .u8 0, Value.int .u8 0, Value.int .u8 0, Value.int .u8 0, Value.int .u8 0, Value.int .u8 0, Value.int .u8 0, Value.int .u8 0, Value.int .u8 0, Value.int .u8 0, Value.int .u8 0, Value.int .u8 0, Value.int .u8 0, Value.int .u8 0] 26)
    have hk3 := hk2.ext hx3
    have hr3 := hr2.ext hx3
    have ht3 := ht2.trans (Tch.of_ext hx3 lo hi)
    have hn3 := Blk.new ((w.alloc (.cells #[Value.int .i64 0, Value.int .u8 0, Value.int .u8 0, Value.int .u8 0, Value.int .u8 0, Value.int .u8 0, Value.int .u8 0, Value.int .u8 0, Value.int .u8 0, Value.int .u8 0, Value.int .u8 0, Value.int .u8 0, Value.int .u8 0, Value.int .u8 0, Value.int .u8 0, Value.int .u8 0, Value.int .u8 0, Value.int .u8 0, Value.int .u8 0, Value.int .u8 0, Value.int .u8 0, Value.int .u8 0, Value.int .u8 0, Value.int .u8 0, Value.int .u8 0, Value.int .u8 0, Value.int .u8 0, Value.int .u8 0, Value.int .u8 0, Value.int .u8 0, Value.int .u8 0, Value.int .u8 0, Value.int .u8 0] 26)).setCell ⟨b, 1, none⟩ (.bool true)) #[Value.int .i64 0, Value.int .u8 0, Value.int .u8 0, Value.int .u8 0, Value.int .u8 0, Value.int .u8 0, Value.int .u8 0, Value.int .u8 0, Value.int .u8 0, Value.int .u8 0, Value.int .u8 0, Value.int .u8 0, Value.int .u8 0, Value.int .u8 0, Value.int .u8 0, Value.int .u8 0, Value.int .u8 0, Value.int .u8 0, Value.int .u8 0, Value.int .u8 0, Value.int .u8 0, Value.int .u8 0, Value.int .u8 0, Value.int .u8 0, Value.int .u8 0, Value.int .u8 0, Value.int .u8 0, Value.int .u8 0, Value.int .u8 0, Value.int .u8 0, Value.int .u8 0, Value.int .u8 0, Value.int .u8 0] 26
    rw [hs2] at hn3
    have HH3 := Aside0.mk hr3
    have HT3 := Aside0.mk ht3
    have HK3 := Aside0.mk hk3
    have HN3 := Aside0.mk hn3
    have HL := Aside0.mk (show lo ≤ b ∧ b < hi ∧ hi ≤ w.heap.size from ⟨h.low, h.high, h.size⟩)
    clear hr1 hk1 hx1 hr2 hw2 hk2 ht2 hs2 hx3 hk3 hr3 ht3 hn3 h hb hs1 c0 c1 f0 f1
    go_enter Try.func64, Try.ntmps64
    go_wp2_with (first | ((with_reducible refine gate_load (ty := 26) rfl ?_); (refine load_at rfl 26 _ rfl (w.heap.size + 1) 0 rfl (refC 0 zero32) _ (HN3.out.range 0 (refC 0 zero32) [] rfl) Try.underlying26 rfl (by kernel_rfl) ?_)) | ((with_reducible refine gate_store (ty := 26) rfl ?_); (refine store_at rfl 26 _ _ rfl w.heap.size (refC 0 zero32) rfl rfl _ 26 HK3.out rfl (by kernel_rfl) (one_ref _ _) ?_)) | fail)
    intro w4 hW4 hB4
    have HH4 := Aside0.mk (HH3.out.tch (Tch.of_wrote hW4 (Nat.le_refl _) (Nat.lt_succ_self _)) (.inl HL.out.2.2))
    have HT4 := Aside0.mk (HT3.out.far_ hW4 (Nat.le_refl _))
    clear hW4 HH3 HT3 HK3 HN3
    go_wp2
    (try simp only [Exit.inBlock, Exit.then])
    refine bodyPost_ret (results_cell_row rfl _ _ w.heap.size 26 (refC 0 zero32).toArray (0, 0) _ rfl hB4.is Try.underlying26 rfl HI.out) rfl ?_
    exact ⟨rfl, ⟨A, c, HH4.out⟩, HT4.out⟩
  | false =>
    have hs : xs.length < 40 := by simpa using hb
    have hd : decide ((xs.length : Int) < 40) = true := decide_eq_true (by omega)
    have hz : ((xs.length : Int) < 40) = True := eq_true (by omega)
    clear hs
    have HI := Aside0.mk (show (Try.prog.info? 26).map (·.size) = some (refC 0 zero32).toArray.size by kernel_rfl)
    have hr1 := h.ext ((Ext.refl w).alloc (.cells #[Value.int .i64 0, Value.int .u8 0, Value.int .u8 0, Value.int .u8 0, Value.int .u8 0, Value.int .u8 0, Value.int .u8 0, Value.int .u8 0, Value.int .u8 0, Value.int .u8 0, Value.int .u8 0, Value.int .u8 0, Value.int .u8 0, Value.int .u8 0, Value.int .u8 0, Value.int .u8 0, Value.int .u8 0, Value.int .u8 0, Value.int .u8 0, Value.int .u8 0, Value.int .u8 0, Value.int .u8 0, Value.int .u8 0, Value.int .u8 0, Value.int .u8 0, Value.int .u8 0, Value.int .u8 0, Value.int .u8 0, Value.int .u8 0, Value.int .u8 0, Value.int .u8 0, Value.int .u8 0, Value.int .u8 0] 26))
    have hk1 : Blk (w.alloc (.cells #[Value.int .i64 0, Value.int .u8 0, Value.int .u8 0, Value.int .u8 0, Value.int .u8 0, Value.int .u8 0, Value.int .u8 0, Value.int .u8 0, Value.int .u8 0, Value.int .u8 0, Value.int .u8 0, Value.int .u8 0, Value.int .u8 0, Value.int .u8 0, Value.int .u8 0, Value.int .u8 0, Value.int .u8 0, Value.int .u8 0, Value.int .u8 0, Value.int .u8 0, Value.int .u8 0, Value.int .u8 0, Value.int .u8 0, Value.int .u8 0, Value.int .u8 0, Value.int .u8 0, Value.int .u8 0, Value.int .u8 0, Value.int .u8 0, Value.int .u8 0, Value.int .u8 0, Value.int .u8 0, Value.int .u8 0] 26)) w.heap.size #[Value.int .i64 0, Value.int .u8 0, Value.int .u8 0, Value.int .u8 0, Value.int .u8 0, Value.int .u8 0, Value.int .u8 0, Value.int .u8 0, Value.int .u8 0, Value.int .u8 0, Value.int .u8 0, Value.int .u8 0, Value.int .u8 0, Value.int .u8 0, Value.int .u8 0, Value.int .u8 0, Value.int .u8 0, Value.int .u8 0, Value.int .u8 0, Value.int .u8 0, Value.int .u8 0, Value.int .u8 0, Value.int .u8 0, Value.int .u8 0, Value.int .u8 0, Value.int .u8 0, Value.int .u8 0, Value.int .u8 0, Value.int .u8 0, Value.int .u8 0, Value.int .u8 0, Value.int .u8 0, Value.int .u8 0] 26 := Blk.new w _ 26
    have hx1 := (Ext.refl w).alloc (.cells #[Value.int .i64 0, Value.int .u8 0, Value.int .u8 0, Value.int .u8 0, Value.int .u8 0, Value.int .u8 0, Value.int .u8 0, Value.int .u8 0, Value.int .u8 0, Value.int .u8 0, Value.int .u8 0, Value.int .u8 0, Value.int .u8 0, Value.int .u8 0, Value.int .u8 0, Value.int .u8 0, Value.int .u8 0, Value.int .u8 0, Value.int .u8 0, Value.int .u8 0, Value.int .u8 0, Value.int .u8 0, Value.int .u8 0, Value.int .u8 0, Value.int .u8 0, Value.int .u8 0, Value.int .u8 0, Value.int .u8 0, Value.int .u8 0, Value.int .u8 0, Value.int .u8 0, Value.int .u8 0, Value.int .u8 0] 26)
    have hs1 : (w.alloc (.cells #[Value.int .i64 0, Value.int .u8 0, Value.int .u8 0, Value.int .u8 0, Value.int .u8 0, Value.int .u8 0, Value.int .u8 0, Value.int .u8 0, Value.int .u8 0, Value.int .u8 0, Value.int .u8 0, Value.int .u8 0, Value.int .u8 0, Value.int .u8 0, Value.int .u8 0, Value.int .u8 0, Value.int .u8 0, Value.int .u8 0, Value.int .u8 0, Value.int .u8 0, Value.int .u8 0, Value.int .u8 0, Value.int .u8 0, Value.int .u8 0, Value.int .u8 0, Value.int .u8 0, Value.int .u8 0, Value.int .u8 0, Value.int .u8 0, Value.int .u8 0, Value.int .u8 0, Value.int .u8 0, Value.int .u8 0] 26)).heap.size = w.heap.size + 1 := size_alloc _ _
    have hbw : b ≠ w.heap.size := by have := h.blk.lt; omega
    have hc0 := hr1.blk.cell 0 (v := .slice A xs.length c) rfl
    have hc1 := hr1.blk.cell 1 (v := .bool false) rfl
    have hf0 := hr1.blk.free 0
    have hf1 := hr1.blk.free 1
    obtain ⟨hr2, hw2⟩ := hr1.bad_ true
    have hk2 := hk1.wrote hw2 (Ne.symm hbw)
    have ht2 := (Tch.of_ext hx1 lo hi).trans (Tch.of_wrote hw2 h.low h.high)
    have hs2 : ((w.alloc (.cells #[Value.int .i64 0, Value.int .u8 0, Value.int .u8 0, Value.int .u8 0, Value.int .u8 0, Value.int .u8 0, Value.int .u8 0, Value.int .u8 0, Value.int .u8 0, Value.int .u8 0, Value.int .u8 0, Value.int .u8 0, Value.int .u8 0, Value.int .u8 0, Value.int .u8 0, Value.int .u8 0, Value.int .u8 0, Value.int .u8 0, Value.int .u8 0, Value.int .u8 0, Value.int .u8 0, Value.int .u8 0, Value.int .u8 0, Value.int .u8 0, Value.int .u8 0, Value.int .u8 0, Value.int .u8 0, Value.int .u8 0, Value.int .u8 0, Value.int .u8 0, Value.int .u8 0, Value.int .u8 0, Value.int .u8 0] 26)).setCell ⟨b, 1, none⟩ (.bool true)).heap.size = w.heap.size + 1 := by rw [hw2.size, hs1]
    have hx3 := (Ext.refl ((w.alloc (.cells #[Value.int .i64 0, Value.int .u8 0, Value.int .u8 0, Value.int .u8 0, Value.int .u8 0, Value.int .u8 0, Value.int .u8 0, Value.int .u8 0, Value.int .u8 0, Value.int .u8 0, Value.int .u8 0, Value.int .u8 0, Value.int .u8 0, Value.int .u8 0, Value.int .u8 0, Value.int .u8 0, Value.int .u8 0, Value.int .u8 0, Value.int .u8 0, Value.int .u8 0, Value.int .u8 0, Value.int .u8 0, Value.int .u8 0, Value.int .u8 0, Value.int .u8 0, Value.int .u8 0, Value.int .u8 0, Value.int .u8 0, Value.int .u8 0, Value.int .u8 0, Value.int .u8 0, Value.int .u8 0, Value.int .u8 0] 26)).setCell ⟨b, 1, none⟩ (.bool true))).alloc (.cells #[Value.int .i64 0, Value.int .u8 0, Value.int .u8 0, Value.int .u8 0, Value.int .u8 0, Value.int .u8 0, Value.int .u8 0, Value.int .u8 0, Value.int .u8 0, Value.int .u8 0, Value.int .u8 0, Value.int .u8 0, Value.int .u8 0, Value.int .u8 0, Value.int .u8 0, Value.int .u8 0, Value.int .u8 0, Value.int .u8 0, Value.int .u8 0, Value.int .u8 0, Value.int .u8 0, Value.int .u8 0, Value.int .u8 0, Value.int .u8 0, Value.int .u8 0, Value.int .u8 0, Value.int .u8 0, Value.int .u8 0, Value.int .u8 0, Value.int .u8 0, Value.int .u8 0, Value.int .u8 0, Value.int .u8 0] 26)
    have hk3 := hk2.ext hx3
    have hr3 := hr2.ext hx3
    have ht3 := ht2.trans (Tch.of_ext hx3 lo hi)
    have hn3 := Blk.new ((w.alloc (.cells #[Value.int .i64 0, Value.int .u8 0, Value.int .u8 0, Value.int .u8 0, Value.int .u8 0, Value.int .u8 0, Value.int .u8 0, Value.int .u8 0, Value.int .u8 0, Value.int .u8 0, Value.int .u8 0, Value.int .u8 0, Value.int .u8 0, Value.int .u8 0, Value.int .u8 0, Value.int .u8 0, Value.int .u8 0, Value.int .u8 0, Value.int .u8 0, Value.int .u8 0, Value.int .u8 0, Value.int .u8 0, Value.int .u8 0, Value.int .u8 0, Value.int .u8 0, Value.int .u8 0, Value.int .u8 0, Value.int .u8 0, Value.int .u8 0, Value.int .u8 0, Value.int .u8 0, Value.int .u8 0, Value.int .u8 0] 26)).setCell ⟨b, 1, none⟩ (.bool true)) #[Value.int .i64 0, Value.int .u8 0, Value.int .u8 0, Value.int .u8 0, Value.int .u8 0, Value.int .u8 0, Value.int .u8 0, Value.int .u8 0, Value.int .u8 0, Value.int .u8 0, Value.int .u8 0, Value.int .u8 0, Value.int .u8 0, Value.int .u8 0, Value.int .u8 0, Value.int .u8 0, Value.int .u8 0, Value.int .u8 0, Value.int .u8 0, Value.int .u8 0, Value.int .u8 0, Value.int .u8 0, Value.int .u8 0, Value.int .u8 0, Value.int .u8 0, Value.int .u8 0, Value.int .u8 0, Value.int .u8 0, Value.int .u8 0, Value.int .u8 0, Value.int .u8 0, Value.int .u8 0, Value.int .u8 0] 26
    rw [hs2] at hn3
    have HH3 := Aside0.mk hr3
    have HT3 := Aside0.mk ht3
    have HK3 := Aside0.mk hk3
    have HN3 := Aside0.mk hn3
    have HL := Aside0.mk (show lo ≤ b ∧ b < hi ∧ hi ≤ w.heap.size from ⟨h.low, h.high, h.size⟩)
    clear hr1 hk1 hx1 hr2 hw2 hk2 ht2 hs2 hx3 hk3 hr3 ht3 hn3 h hb hs1 c0 c1 f0 f1
    go_enter Try.func64, Try.ntmps64
    go_wp2_with (first | ((with_reducible refine gate_load (ty := 26) rfl ?_); (refine load_at rfl 26 _ rfl (w.heap.size + 1) 0 rfl (refC 0 zero32) _ (HN3.out.range 0 (refC 0 zero32) [] rfl) Try.underlying26 rfl (by kernel_rfl) ?_)) | ((with_reducible refine gate_store (ty := 26) rfl ?_); (refine store_at rfl 26 _ _ rfl w.heap.size (refC 0 zero32) rfl rfl _ 26 HK3.out rfl (by kernel_rfl) (one_ref _ _) ?_)) | fail)
    intro w4 hW4 hB4
    have HH4 := Aside0.mk (HH3.out.tch (Tch.of_wrote hW4 (Nat.le_refl _) (Nat.lt_succ_self _)) (.inl HL.out.2.2))
    have HT4 := Aside0.mk (HT3.out.far_ hW4 (Nat.le_refl _))
    clear hW4 HH3 HT3 HK3 HN3
    go_wp2
    (try simp only [Exit.inBlock, Exit.then])
    refine bodyPost_ret (results_cell_row rfl _ _ w.heap.size 26 (refC 0 zero32).toArray (0, 0) _ rfl hB4.is Try.underlying26 rfl HI.out) rfl ?_
    exact ⟨rfl, ⟨A, c, HH4.out⟩, HT4.out⟩

set_option maxHeartbeats 4000000 in
theorem take_ref_ok (w : World) (lo hi b : Nat) (xs : List Int) (h : Rd w lo hi b xs false) (hb : isB xs) (hs : 40 ≤ xs.length) :
    Calls Try.prog 64 #[.pointer (some ⟨b, 0, none⟩), .int .i64 40, .func (.func 65) #[] #[]] w fun e w' => e = .returned (refV (numI (xs.take 8)) ((xs.take 40).drop 8)) ∧ Rd w' lo hi b (xs.drop 40) false ∧ Tch w w' lo hi := by
  obtain ⟨A, c, h⟩ := h
  have hx1 := (Ext.refl w).alloc (.cells #[Value.int .i64 0, Value.int .u8 0, Value.int .u8 0, Value.int .u8 0, Value.int .u8 0, Value.int .u8 0, Value.int .u8 0, Value.int .u8 0, Value.int .u8 0, Value.int .u8 0, Value.int .u8 0, Value.int .u8 0, Value.int .u8 0, Value.int .u8 0, Value.int .u8 0, Value.int .u8 0, Value.int .u8 0, Value.int .u8 0, Value.int .u8 0, Value.int .u8 0, Value.int .u8 0, Value.int .u8 0, Value.int .u8 0, Value.int .u8 0, Value.int .u8 0, Value.int .u8 0, Value.int .u8 0, Value.int .u8 0, Value.int .u8 0, Value.int .u8 0, Value.int .u8 0, Value.int .u8 0, Value.int .u8 0] 26)
  have hk1 : Blk (w.alloc (.cells #[Value.int .i64 0, Value.int .u8 0, Value.int .u8 0, Value.int .u8 0, Value.int .u8 0, Value.int .u8 0, Value.int .u8 0, Value.int .u8 0, Value.int .u8 0, Value.int .u8 0, Value.int .u8 0, Value.int .u8 0, Value.int .u8 0, Value.int .u8 0, Value.int .u8 0, Value.int .u8 0, Value.int .u8 0, Value.int .u8 0, Value.int .u8 0, Value.int .u8 0, Value.int .u8 0, Value.int .u8 0, Value.int .u8 0, Value.int .u8 0, Value.int .u8 0, Value.int .u8 0, Value.int .u8 0, Value.int .u8 0, Value.int .u8 0, Value.int .u8 0, Value.int .u8 0, Value.int .u8 0, Value.int .u8 0] 26)) w.heap.size #[Value.int .i64 0, Value.int .u8 0, Value.int .u8 0, Value.int .u8 0, Value.int .u8 0, Value.int .u8 0, Value.int .u8 0, Value.int .u8 0, Value.int .u8 0, Value.int .u8 0, Value.int .u8 0, Value.int .u8 0, Value.int .u8 0, Value.int .u8 0, Value.int .u8 0, Value.int .u8 0, Value.int .u8 0, Value.int .u8 0, Value.int .u8 0, Value.int .u8 0, Value.int .u8 0, Value.int .u8 0, Value.int .u8 0, Value.int .u8 0, Value.int .u8 0, Value.int .u8 0, Value.int .u8 0, Value.int .u8 0, Value.int .u8 0, Value.int .u8 0, Value.int .u8 0, Value.int .u8 0, Value.int .u8 0] 26 := Blk.new w _ 26
  have hr1 := h.ext hx1
  have hbw : b ≠ w.heap.size := by have := h.blk.lt; omega
  have HL := Aside0.mk (show lo ≤ b ∧ b < hi ∧ hi ≤ w.heap.size from ⟨h.low, h.high, h.size⟩)
  have c0 := hr1.blk.cell 0 (v := .slice A xs.length c) rfl
  have c1 := hr1.blk.cell 1 (v := .bool false) rfl
  have f0 := hr1.blk.free 0
  have f1 := hr1.blk.free 1
  obtain ⟨hd, hw⟩ := hr1.drop 40 hs
  have hk2 := hk1.wrote hw (Ne.symm hbw)
  have hT := (Tch.of_ext hx1 lo hi).trans (Tch.of_wrote hw h.low h.high)
  have hq : Kd.C kb ((w.alloc (.cells #[Value.int .i64 0, Value.int .u8 0, Value.int .u8 0, Value.int .u8 0, Value.int .u8 0, Value.int .u8 0, Value.int .u8 0, Value.int .u8 0, Value.int .u8 0, Value.int .u8 0, Value.int .u8 0, Value.int .u8 0, Value.int .u8 0, Value.int .u8 0, Value.int .u8 0, Value.int .u8 0, Value.int .u8 0, Value.int .u8 0, Value.int .u8 0, Value.int .u8 0, Value.int .u8 0, Value.int .u8 0, Value.int .u8 0, Value.int .u8 0, Value.int .u8 0, Value.int .u8 0, Value.int .u8 0, Value.int .u8 0, Value.int .u8 0, Value.int .u8 0, Value.int .u8 0, Value.int .u8 0, Value.int .u8 0] 26)).setCell ⟨b, 0, none⟩ (.slice (if c = 40 then A else A.map (·.add (40 * 1))) (xs.length - 40) (c - 40))) A 40 (xs.take 40) := by
    have := kb_stays (Kd.C_take hr1.row hs) (fun a ha => hw.block _ (hr1.far a ha).2.2)
    rwa [show (xs.take 40).length = 40 by rw [List.length_take]; omega] at this
  obtain ⟨i0, hi0, _, hsz, _⟩ := info_parts PPackPuts.info5
  have hcut := cut_to (P := Try.prog) 22 5 .i64 Try.underlying22 hi0 A xs.length c 40 (by decide) (by omega) h.cap
  have hcut2 := cut_from (P := Try.prog) 22 5 .i64 Try.underlying22 hi0 1 hsz A xs.length c 40 (by decide) (by omega)
  rw [show (40 : Int).toNat = 40 from rfl] at hcut hcut2
  have hc := Nat.le_trans hs h.cap
  generalize (if c = 40 then A else A.map (·.add (40 * 1))) = A' at hd hw hT hq hcut2 hk2
  generalize xs.length - 40 = n' at hd hw hT hq hcut2 hk2
  generalize c - 40 = c' at hd hw hT hq hcut2 hk2
  have HD := Aside0.mk hd
  have HQ := Aside0.mk hq
  have HB := Aside0.mk hb
  have HS := Aside0.mk hs
  have HI := Aside0.mk (show (Try.prog.info? 26).map (·.size) = some (refC (numI (xs.take 8)) ((xs.take 40).drop 8)).length by unfold refC; rw [List.length_cons, nums_length, List.length_drop, List.length_take, Nat.min_eq_left hs]; kernel_rfl)
  have HZ := Aside0.mk (show 33 = (refC (numI (xs.take 8)) ((xs.take 40).drop 8)).length by unfold refC; rw [List.length_cons, nums_length, List.length_drop, List.length_take, Nat.min_eq_left hs])
  have hz : ((xs.length : Int) < 40) = False := eq_false (by omega)
  have hzd : decide ((xs.length : Int) < 40) = false := decide_eq_false (by omega)
  clear h hd hq hw hb hi0 hsz hs hx1 hk1 hr1 hbw
  go_enter Try.func64, Try.ntmps64
  go_wp2_with fail
  refine (getref_at _ A c 40 xs (xs.take 40) rfl hc (HB.out.take 40) HQ.out (by rw [List.take_take]; rfl)).mono ?_
  rintro e w1 ⟨rfl, hE⟩
  have HT := Aside0.mk (hT.trans (Tch.of_ext hE lo hi))
  have HD1 := Aside0.mk (HD.out.ext hE)
  have HK1 := Aside0.mk (hk2.ext hE)
  clear hT hE HD HQ hk2
  go_wp2_with (first | ((with_reducible refine gate_store (ty := 26) rfl ?_); (refine store_at rfl 26 _ _ rfl w.heap.size (refC (numI (xs.take 8)) ((xs.take 40).drop 8)) rfl rfl _ 26 HK1.out HZ.out HI.out (one_ref _ _) ?_)) | fail)
  intro w4 hW4 hB4
  have HH4 := Aside0.mk (HD1.out.tch (Tch.of_wrote hW4 (Nat.le_refl _) (Nat.lt_succ_self _)) (.inl HL.out.2.2))
  have HT4 := Aside0.mk (HT.out.far_ hW4 (Nat.le_refl _))
  clear hW4 HD1 HT HK1
  go_wp2
  (try simp only [Exit.inBlock, Exit.then])
  refine bodyPost_ret (results_cell_row rfl _ _ w.heap.size 26 (refC (numI (xs.take 8)) ((xs.take 40).drop 8)).toArray (0, 0) _ rfl hB4.is Try.underlying26 rfl (by simpa using HI.out)) rfl ?_
  exact ⟨rfl, ⟨_, _, HH4.out⟩, HT4.out⟩
end Go.Proofs.Ythgdjgnbifakbaa.By
