/- The disk's small methods. -/
import Derived.Test.YtkgjcmolmogpdaaDirty
import Derived.Lib.Hide
namespace Go.Proofs.Ytkgjcmolmogpdaa.By
open Go.RowKit Go.Proofs.Ytkgjcmolmogpdaa.Reg Go.Proofs.YtkgjcmolmogpdaaW.PrintWords Go.Proofs.YtkgjcmolmogpdaaW.PrintLast Go.Proofs.YtkgjcmolmogpdaaW.PrintMore
set_option linter.unusedVariables false
set_option linter.unusedSimpArgs false


def inB (i : Int) (n : Nat) : Bool := decide (0 ≤ i) && decide (i < n)
theorem inB_t {i : Int} {n : Nat} (h : inB i n = true) : 0 ≤ i ∧ i < n := by simpa [inB] using h
theorem inB_f {i : Int} {n : Nat} (h : inB i n = false) : ¬ (0 ≤ i ∧ i < n) := by
  intro hh
  simp only [inB, decide_eq_true hh.1, decide_eq_true hh.2] at h
  cases h
def wrongF (i : Int) (n m : Nat) : Int := if inB i n = false then 7 else if 1024 < m then 3 else 0
def downF (ar : Bool) (lf : Int) (of : Bool) : Bool := of || (ar && decide (lf = 0))
def spendE (ar : Bool) (lf : Int) (of : Bool) : Int := if downF ar lf of = true then 12 else 0
def spendL (ar : Bool) (lf : Int) (of : Bool) : Int := if downF ar lf of = true then lf else wrap64 (lf - 1)
set_option maxRecDepth 100000 in
set_option maxHeartbeats 2000000 in
theorem there_calls {w : World} {bd bl bc br n : Nat} {LV : List Value} {CV : List (Int × Value)} {ar : Bool} {lf : Int} {of : Bool} {wr : Int} {rd : List Int} (h : DV w bd bl bc br n LV CV ar lf of wr rd) (i : Int) :
    Calls Try.prog 49 #[.pointer (some ⟨bd, 0, none⟩), .int .i64 i] w fun e w' => e = .returned (.bool (inB i n)) ∧ w = w' := by
  have hnn := h.nn
  have HD := Aside0.mk h
  obtain ⟨c0, c1, c2, c3, c4, c5, c6⟩ := h.cells
  clear h
  by_cases h0 : 0 ≤ i
  · by_cases h1 : i < n
    · have hd1 : decide (i < (n : Int)) = true := decide_eq_true h1
      go_enter Try.func49, Try.ntmps49
      go_wp2
      go_ret
      exact ⟨by unfold inB; rw [decide_eq_true h0, hd1]; rfl, rfl⟩
    · have hd1 : decide (i < (n : Int)) = false := decide_eq_false h1
      go_enter Try.func49, Try.ntmps49
      go_wp2
      go_ret
      exact ⟨by unfold inB; rw [decide_eq_true h0, hd1]; rfl, rfl⟩
  · have hd0 : decide (0 ≤ i) = false := decide_eq_false h0
    have hz : (0 ≤ i) = False := eq_false h0
    go_enter Try.func49, Try.ntmps49
    go_wp2
    go_ret
    exact ⟨by unfold inB; rw [hd0]; rfl, rfl⟩
set_option maxRecDepth 100000 in
set_option maxHeartbeats 2000000 in
theorem wrong_calls {w : World} {bd bl bc br n : Nat} {LV : List Value} {CV : List (Int × Value)} {ar : Bool} {lf : Int} {of : Bool} {wr : Int} {rd : List Int} (h : DV w bd bl bc br n LV CV ar lf of wr rd) (i : Int) (A : Option Addr) (m c : Nat) :
    Calls Try.prog 47 #[.pointer (some ⟨bd, 0, none⟩), .int .i64 i, .slice A m c] w fun e w' => e = .returned (.int .i64 (wrongF i n m)) ∧ w = w' := by
  have HT := Aside0.mk (there_calls h i)
  have HD := Aside0.mk h
  obtain ⟨c0, c1, c2, c3, c4, c5, c6⟩ := h.cells
  clear h
  cases hi : inB i n with
  | true =>
    rw [hi] at HT
    by_cases hm : (1024 : Int) < m
    · go_enter Try.func47, Try.ntmps47
      go_wp2_with fail
      refine HT.out.mono ?_
      rintro e w1 ⟨rfl, rfl⟩
      go_wp2
      go_ret
      exact ⟨by unfold wrongF; rw [hi, if_neg (by decide), if_pos (by omega)]; rfl, rfl⟩
    · go_enter Try.func47, Try.ntmps47
      go_wp2_with fail
      refine HT.out.mono ?_
      rintro e w1 ⟨rfl, rfl⟩
      go_wp2
      go_ret
      exact ⟨by unfold wrongF; rw [hi, if_neg (by decide), if_neg (by omega)]; rfl, rfl⟩
  | false =>
    rw [hi] at HT
    go_enter Try.func47, Try.ntmps47
    go_wp2_with fail
    refine HT.out.mono ?_
    rintro e w1 ⟨rfl, rfl⟩
    go_wp2
    go_ret
    exact ⟨by unfold wrongF; rw [hi, if_pos rfl]; rfl, rfl⟩
set_option maxRecDepth 100000 in
set_option maxHeartbeats 2000000 in
theorem spend_calls {w : World} {bd bl bc br n : Nat} {LV : List Value} {CV : List (Int × Value)} {ar : Bool} {lf : Int} {of : Bool} {wr : Int} {rd : List Int} (h : DV w bd bl bc br n LV CV ar lf of wr rd) :
    Calls Try.prog 30 #[.pointer (some ⟨bd, 0, none⟩)] w fun e w' => e = .returned (.int .i64 (spendE ar lf of)) ∧ DV w' bd bl bc br n LV CV ar (spendL ar lf of) (downF ar lf of) wr rd ∧ Chg w w' (fun k => k = bd) := by
  have f3 := h.hd.free 3
  have f4 := h.hd.free 4
  have HD := Aside0.mk h
  obtain ⟨c0, c1, c2, c3, c4, c5, c6⟩ := h.cells
  clear h
  have HW3 := Aside0.mk (fun x => Wrote.setCell w bd 3 (.int .i64 x))
  have HB3 := Aside0.mk (fun x => show Blk (w.setCell ⟨bd, 3, none⟩ (.int .i64 x)) bd (dskC bl bc br n ar x of wr).toArray 72 by simpa [dskC] using HD.out.hd.set 3 (.int .i64 x))
  have HW4 := Aside0.mk (Wrote.setCell w bd 4 (.bool true))
  have HB4 := Aside0.mk (show Blk (w.setCell ⟨bd, 4, none⟩ (.bool true)) bd (dskC bl bc br n ar lf true wr).toArray 72 by simpa [dskC] using HD.out.hd.set 4 (.bool true))
  cases of with
  | true =>
    go_enter Try.func30, Try.ntmps30
    go_wp2
    go_ret
    exact ⟨rfl, HD.out, Chg.refl _ _⟩
  | false =>
    cases ar with
    | false =>
      go_enter Try.func30, Try.ntmps30
      go_wp2
      go_ret
      exact ⟨rfl, HD.out.set _ _ _ _ (HW3.out _) (HB3.out _), Chg.of_wrote (HW3.out _) rfl⟩
    | true =>
      by_cases hz : lf = 0
      · subst hz
        go_enter Try.func30, Try.ntmps30
        go_wp2
        go_ret
        exact ⟨rfl, HD.out.set _ _ _ _ HW4.out HB4.out, Chg.of_wrote HW4.out rfl⟩
      · have hzd : (lf == 0) = false := by simpa using hz
        have e1 : downF true lf false = false := by simp [downF, hz]
        go_enter Try.func30, Try.ntmps30
        go_wp2
        go_ret
        unfold spendE spendL
        rw [e1, if_neg (by decide), if_neg (by decide)]
        exact ⟨rfl, HD.out.set _ _ _ _ (HW3.out _) (HB3.out _), Chg.of_wrote (HW3.out _) rfl⟩
set_option maxRecDepth 100000 in
set_option maxHeartbeats 2000000 in
theorem down_calls {w : World} {bd bl bc br n : Nat} {LV : List Value} {CV : List (Int × Value)} {ar : Bool} {lf : Int} {of : Bool} {wr : Int} {rd : List Int} (h : DV w bd bl bc br n LV CV ar lf of wr rd) :
    Calls Try.prog 24 #[.pointer (some ⟨bd, 0, none⟩)] w fun e w' => e = .returned (.bool of) ∧ w = w' := by
  have HD := Aside0.mk h
  obtain ⟨c0, c1, c2, c3, c4, c5, c6⟩ := h.cells
  clear h
  go_enter Try.func24, Try.ntmps24
  go_wp2
  go_ret
  exact ⟨rfl, rfl⟩
set_option maxRecDepth 100000 in
set_option maxHeartbeats 2000000 in
theorem writes_calls {w : World} {bd bl bc br n : Nat} {LV : List Value} {CV : List (Int × Value)} {ar : Bool} {lf : Int} {of : Bool} {wr : Int} {rd : List Int} (h : DV w bd bl bc br n LV CV ar lf of wr rd) :
    Calls Try.prog 26 #[.pointer (some ⟨bd, 0, none⟩)] w fun e w' => e = .returned (.int .i64 wr) ∧ w = w' := by
  have HD := Aside0.mk h
  obtain ⟨c0, c1, c2, c3, c4, c5, c6⟩ := h.cells
  clear h
  go_enter Try.func26, Try.ntmps26
  go_wp2
  go_ret
  exact ⟨rfl, rfl⟩
set_option maxRecDepth 100000 in
set_option maxHeartbeats 2000000 in
theorem len_calls {w : World} {bd bl bc br n : Nat} {LV : List Value} {CV : List (Int × Value)} {ar : Bool} {lf : Int} {of : Bool} {wr : Int} {rd : List Int} (h : DV w bd bl bc br n LV CV ar lf of wr rd) :
    Calls Try.prog 64 #[.pointer (some ⟨bd, 0, none⟩)] w fun e w' => e = .returned (.int .i64 n) ∧ w = w' := by
  have HD := Aside0.mk h
  obtain ⟨c0, c1, c2, c3, c4, c5, c6⟩ := h.cells
  clear h
  go_enter Try.func64, Try.ntmps64
  go_wp2
  go_ret
  exact ⟨rfl, rfl⟩
set_option maxRecDepth 100000 in
set_option maxHeartbeats 2000000 in
theorem arm_calls {w : World} {bd bl bc br n : Nat} {LV : List Value} {CV : List (Int × Value)} {ar : Bool} {lf : Int} {of : Bool} {wr : Int} {rd : List Int} (h : DV w bd bl bc br n LV CV ar lf of wr rd) (x : Int) :
    Calls Try.prog 29 #[.pointer (some ⟨bd, 0, none⟩), .int .i64 x] w fun e w' => e = .returned (.tuple #[]) ∧ DV w' bd bl bc br n LV CV (decide (0 ≤ x)) x of wr rd ∧ Chg w w' (fun k => k = bd) := by
  have f2 := h.hd.free 2
  have f3 := h.hd.free 3
  have HD := Aside0.mk h
  obtain ⟨c0, c1, c2, c3, c4, c5, c6⟩ := h.cells
  clear h
  have HW := Aside0.mk ((Wrote.setCell w bd 2 (.bool (decide (0 ≤ x)))).trans (Wrote.setCell (w.setCell ⟨bd, 2, none⟩ (.bool (decide (0 ≤ x)))) bd 3 (.int .i64 x)))
  have HB := Aside0.mk (show Blk ((w.setCell ⟨bd, 2, none⟩ (.bool (decide (0 ≤ x)))).setCell ⟨bd, 3, none⟩ (.int .i64 x)) bd (dskC bl bc br n (decide (0 ≤ x)) x of wr).toArray 72 by simpa [dskC] using (HD.out.hd.set 2 (.bool (decide (0 ≤ x)))).set 3 (.int .i64 x))
  go_enter Try.func29, Try.ntmps29
  go_wp2
  go_end0
  exact ⟨rfl, HD.out.set _ _ _ _ HW.out HB.out, Chg.of_wrote HW.out rfl⟩
end Go.Proofs.Ytkgjcmolmogpdaa.By
