/- The counter and its disk together, as far as layer 8 looks at them. -/
import Derived.Test.YtkgjcmolmogpdaaCnt
namespace Go.Proofs.Ytkgjcmolmogpdaa.By
open Go.RowKit Go.Proofs.Ytkgjcmolmogpdaa.Reg Go.Proofs.YtkgjcmolmogpdaaW.PrintWords Go.Proofs.YtkgjcmolmogpdaaW.PrintLast Go.Proofs.YtkgjcmolmogpdaaW.PrintMore
set_option linter.unusedVariables false
set_option linter.unusedSimpArgs false


/-- The disk at bd (n sectors), whatever it holds; its blocks lie at B or beyond. -/
def DE (w : World) (B bd n : Nat) (ar : Bool) (lf : Int) (of : Bool) : Prop := ∃ bl bc br LV CV wt rd, DV w bd bl bc br n LV CV ar lf of wt rd ∧ ∀ k, Dst bd bl bc br k → B ≤ k
/-- .. and the counter at bk, which has v. -/
def CE (w : World) (B bd bk n : Nat) (v : Int) (ar : Bool) (lf : Int) (of : Bool) : Prop := ∃ bl bc br LV CV wt rd, DV w bd bl bc br n LV CV ar lf of wt rd ∧ (∀ k, Dst bd bl bc br k → B ≤ k) ∧ Blk w bk (cntC bd v).toArray 89 ∧ B ≤ bk
section
variable {w w' : World} {B bd bk n : Nat} {v : Int} {ar : Bool} {lf : Int} {of : Bool}
theorem CE.ext (h : CE w B bd bk n v ar lf of) (he : Ext w w') : CE w' B bd bk n v ar lf of := by
  obtain ⟨bl, bc, br, LV, CV, wt, rd, h1, h2, h3, h4⟩ := h
  exact ⟨bl, bc, br, LV, CV, wt, rd, h1.ext he, h2, h3.ext he, h4⟩
theorem CE.size (h : CE w B bd bk n v ar lf of) : B ≤ w.heap.size := by
  obtain ⟨bl, bc, br, LV, CV, wt, rd, h1, h2, h3, h4⟩ := h
  exact Nat.le_of_lt (Nat.lt_of_le_of_lt h4 h3.lt)
theorem ce_value (h : CE w B bd bk n v ar lf of) : Calls Try.prog 42 #[.pointer (some ⟨bk, 0, none⟩)] w fun e w' => e = .returned (.int .i64 v) ∧ w = w' := by
  obtain ⟨bl, bc, br, LV, CV, wt, rd, h1, h2, h3, h4⟩ := h
  exact value_calls h3
theorem ce_down (h : CE w B bd bk n v ar lf of) : Calls Try.prog 24 #[.pointer (some ⟨bd, 0, none⟩)] w fun e w' => e = .returned (.bool of) ∧ w = w' := by
  obtain ⟨bl, bc, br, LV, CV, wt, rd, h1, h2, h3, h4⟩ := h
  exact down_calls h1
theorem ce_arm (h : CE w B bd bk n v ar lf of) (x : Int) : Calls Try.prog 29 #[.pointer (some ⟨bd, 0, none⟩), .int .i64 x] w fun e w' => e = .returned (.tuple #[]) ∧ CE w' B bd bk n v (decide (0 ≤ x)) x of ∧ Below B w w' := by
  have hs := h.size
  obtain ⟨bl, bc, br, LV, CV, wt, rd, h1, h2, h3, h4⟩ := h
  refine (arm_calls h1 x).mono fun e w' ⟨he, hd, hc⟩ => ⟨he, ⟨bl, bc, br, LV, CV, wt, rd, hd, h2, hc.blk h3 (fun e => cnt_apart h3 h1 (.inl e)), h4⟩, hc.to_below hs (fun k hk => h2 k (.inl hk))⟩
theorem ce_crash (h : CE w B bd bk n v ar lf of) : Calls Try.prog 20 #[.pointer (some ⟨bd, 0, none⟩), .slice none 0 0] w fun e w' => e = .returned (.tuple #[]) ∧ CE w' B bd bk n v false lf false ∧ Below B w w' := by
  have hs := h.size
  obtain ⟨bl, bc, br, LV, CV, wt, rd, h1, h2, h3, h4⟩ := h
  refine (crash_calls h1 none 0 0 [] rfl (Kd.F_nil kI w _) (Nat.le_refl _)).mono fun e w' ⟨he, hd, hc⟩ => ⟨he, ⟨bl, bc, br, _, _, wt, rd, hd, h2, hc.blk h3 (cnt_apart h3 h1), h4⟩, hc.to_below hs h2⟩
theorem ce_sync (h : CE w B bd bk n v ar lf of) : Calls Try.prog 19 #[.pointer (some ⟨bd, 0, none⟩)] w fun e w' => e = .returned (.int .i64 (spendE ar lf of)) ∧ CE w' B bd bk n v ar (spendL ar lf of) (downF ar lf of) ∧ Below B w w' := by
  have hs := h.size
  obtain ⟨bl, bc, br, LV, CV, wt, rd, h1, h2, h3, h4⟩ := h
  cases hd : downF ar lf of with
  | true =>
    rw [(spendE_12 hd).1, (spendE_12 hd).2]
    exact (sync_spent h1 hd).mono fun e w' ⟨he, h5, hc⟩ => ⟨he, ⟨bl, bc, br, LV, CV, wt, rd, h5, h2, hc.blk h3 (fun e => cnt_apart h3 h1 (.inl e)), h4⟩, hc.to_below hs (fun k hk => h2 k (.inl hk))⟩
  | false =>
    rw [(spendE_0 hd).1, (spendE_0 hd).2]
    exact (sync_ok h1 hd).mono fun e w' ⟨he, h5, hc⟩ => ⟨he, ⟨bl, bc, br, _, _, wt, rd, h5, h2, hc.blk h3 (cnt_apart h3 h1), h4⟩, hc.to_below hs h2⟩
/-- What a Write of nothing answers. -/
def writeE (i : Int) (n m : Nat) (ar : Bool) (lf : Int) (of : Bool) : Int := if of = true then 12 else if ¬ wrongF i n m = 0 then wrongF i n m else spendE ar lf of
def writeL (i : Int) (n m : Nat) (ar : Bool) (lf : Int) (of : Bool) : Int := if of = true ∨ ¬ wrongF i n m = 0 then lf else spendL ar lf of
def writeD (i : Int) (n m : Nat) (ar : Bool) (lf : Int) (of : Bool) : Bool := if of = true ∨ ¬ wrongF i n m = 0 then of else downF ar lf of
theorem ce_write (h : CE w B bd bk n v ar lf of) (i : Int) : Calls Try.prog 18 #[.pointer (some ⟨bd, 0, none⟩), .int .i64 i, .slice none 0 0] w fun e w' => e = .returned (.int .i64 (writeE i n 0 ar lf of)) ∧ CE w' B bd bk n v ar (writeL i n 0 ar lf of) (writeD i n 0 ar lf of) ∧ Below B w w' := by
  have hs := h.size
  obtain ⟨bl, bc, br, LV, CV, wt, rd, h1, h2, h3, h4⟩ := h
  cases of with
  | true =>
    refine (write_down h1 i none 0 0).mono fun e w' ⟨he, hw⟩ => ?_
    subst hw
    exact ⟨he, ⟨bl, bc, br, LV, CV, wt, rd, h1, h2, h3, h4⟩, Below.refl _ _⟩
  | false =>
    by_cases hq : wrongF i n 0 = 0
    · have e1 : writeE i n 0 ar lf false = spendE ar lf false := by unfold writeE; rw [if_neg (by decide), if_neg (by rw [hq]; simp)]
      have e2 : writeL i n 0 ar lf false = spendL ar lf false := by unfold writeL; rw [if_neg (by rw [hq]; simp)]
      have e3 : writeD i n 0 ar lf false = downF ar lf false := by unfold writeD; rw [if_neg (by rw [hq]; simp)]
      rw [e1, e2, e3]
      cases hd : downF ar lf false with
      | true =>
        rw [(spendE_12 hd).1, (spendE_12 hd).2]
        exact (write_spent h1 i none 0 0 hq hd).mono fun e w' ⟨he, h5, hc⟩ => ⟨he, ⟨bl, bc, br, LV, CV, wt, rd, h5, h2, hc.blk h3 (fun e => cnt_apart h3 h1 (.inl e)), h4⟩, hc.to_below hs (fun k hk => h2 k (.inl hk))⟩
      | false =>
        rw [(spendE_0 hd).1, (spendE_0 hd).2]
        exact (write_ok h1 i none 0 0 [] rfl (Kd.F_nil kb w _) (Nat.le_refl _) hq hd).mono fun e w' ⟨U, he, _, h5, hc⟩ => ⟨he, ⟨bl, bc, br, _, _, _, rd, h5, h2, hc.blk h3 (cnt_apart h3 h1), h4⟩, hc.to_below hs h2⟩
    · have e1 : writeE i n 0 ar lf false = wrongF i n 0 := by unfold writeE; rw [if_neg (by decide), if_pos hq]
      have e2 : writeL i n 0 ar lf false = lf := by unfold writeL; rw [if_pos (.inr hq)]
      have e3 : writeD i n 0 ar lf false = false := by unfold writeD; rw [if_pos (.inr hq)]
      rw [e1, e2, e3]
      refine (write_wrong h1 i none 0 0 _ rfl hq).mono fun e w' ⟨he, hw⟩ => ?_
      subst hw
      exact ⟨he, ⟨bl, bc, br, LV, CV, wt, rd, h1, h2, h3, h4⟩, Below.refl _ _⟩
def raiseE (q v : Int) (ar : Bool) (lf : Int) (of : Bool) : Int := if lateF q v = true then 8 else spendE ar lf of
def raiseV (q v : Int) (ar : Bool) (lf : Int) (of : Bool) : Int := if lateF q v = true ∨ downF ar lf of = true then v else q
def raiseL (q v : Int) (ar : Bool) (lf : Int) (of : Bool) : Int := if lateF q v = true then lf else spendL ar lf of
def raiseD (q v : Int) (ar : Bool) (lf : Int) (of : Bool) : Bool := if lateF q v = true then of else downF ar lf of
theorem ce_raise (h : CE w B bd bk n v ar lf of) (q : Int) : Calls Try.prog 43 #[.pointer (some ⟨bk, 0, none⟩), .int .i64 q] w fun e w' => e = .returned (.int .i64 (raiseE q v ar lf of)) ∧ CE w' B bd bk n (raiseV q v ar lf of) ar (raiseL q v ar lf of) (raiseD q v ar lf of) ∧ Below B w w' := by
  have hs := h.size
  obtain ⟨bl, bc, br, LV, CV, wt, rd, h1, h2, h3, h4⟩ := h
  cases hl : lateF q v with
  | true =>
    have e1 : raiseE q v ar lf of = 8 := by unfold raiseE; rw [if_pos hl]
    have e2 : raiseV q v ar lf of = v := by unfold raiseV; rw [if_pos (.inl hl)]
    have e3 : raiseL q v ar lf of = lf := by unfold raiseL; rw [if_pos hl]
    have e4 : raiseD q v ar lf of = of := by unfold raiseD; rw [if_pos hl]
    rw [e1, e2, e3, e4]
    refine (raise_no h3 q hl).mono fun e w' ⟨he, hw⟩ => ?_
    subst hw
    exact ⟨he, ⟨bl, bc, br, LV, CV, wt, rd, h1, h2, h3, h4⟩, Below.refl _ _⟩
  | false =>
    have hl' : ¬ lateF q v = true := by rw [hl]; decide
    have e1 : raiseE q v ar lf of = spendE ar lf of := by unfold raiseE; rw [if_neg hl']
    have e3 : raiseL q v ar lf of = spendL ar lf of := by unfold raiseL; rw [if_neg hl']
    have e4 : raiseD q v ar lf of = downF ar lf of := by unfold raiseD; rw [if_neg hl']
    rw [e1, e3, e4]
    cases hd : downF ar lf of with
    | true =>
      have e2 : raiseV q v ar lf of = v := by unfold raiseV; rw [if_pos (.inr hd)]
      rw [(spendE_12 hd).1, (spendE_12 hd).2, e2]
      exact (raise_spent h1 h3 q hl hd).mono fun e w' ⟨he, h5, hc⟩ => ⟨he, ⟨bl, bc, br, LV, CV, wt, rd, h5, h2, hc.blk h3 (fun e => cnt_apart h3 h1 (.inl e)), h4⟩, hc.to_below hs (fun k hk => h2 k (.inl hk))⟩
    | false =>
      have e2 : raiseV q v ar lf of = q := by unfold raiseV; rw [if_neg (by rw [hl, hd]; simp)]
      rw [(spendE_0 hd).1, (spendE_0 hd).2, e2]
      refine (raise_ok h1 h3 q hl hd).mono fun e w' ⟨he, h5, h6, hc⟩ => ⟨he, ⟨bl, bc, br, LV, CV, wt, rd, h5, h2, h6, h4⟩, hc.to_below hs (fun k hk => by
        rcases hk with rfl | rfl
        · exact h2 _ (.inl rfl)
        · exact h4)⟩
end
theorem ce_new (w : World) (n : Nat) (h0 : 1 ≤ n) (h1 : n ≤ 4096) (B : Nat) (hB : B ≤ w.heap.size) : Calls Try.prog 15 #[.int .i64 n] w fun e w' => ∃ bd, e = .returned (.tuple #[.pointer (some ⟨bd, 0, none⟩), .int .i64 0]) ∧ DE w' B bd n false 0 false ∧ Ext w w' := by
  refine (new_ok w n h0 h1).mono fun e w' ⟨bd, bl, bc, br, he, hd, hE, hk⟩ => ⟨bd, he, ⟨bl, bc, br, _, _, _, _, hd, fun k h => Nat.le_trans hB (hk k h)⟩, hE⟩
theorem ce_cnew {w : World} {B bd n : Nat} {ar : Bool} {lf : Int} {of : Bool} (h : DE w B bd n ar lf of) : Calls Try.prog 41 #[.pointer (some ⟨bd, 0, none⟩)] w fun e w' => ∃ bk, e = .returned (.pointer (some ⟨bk, 0, none⟩)) ∧ CE w' B bd bk n 0 ar lf of ∧ Ext w w' := by
  obtain ⟨bl, bc, br, LV, CV, wt, rd, h1, h2⟩ := h
  refine (cnew_calls w bd).mono fun e w' ⟨bk, he, hb, hbk, hE⟩ => ⟨bk, he, ⟨bl, bc, br, LV, CV, wt, rd, h1.ext hE, h2, hb, Nat.le_trans (Nat.le_trans (h2 _ (.inl rfl)) (Nat.le_of_lt h1.hd.lt)) hbk⟩, hE⟩
end Go.Proofs.Ytkgjcmolmogpdaa.By
