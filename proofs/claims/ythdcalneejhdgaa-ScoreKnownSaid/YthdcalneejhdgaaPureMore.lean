/- Plain laws on the victim of rows behind others. -/
import Derived.Test.YthdcalneejhdgaaBends
import Derived.Test.YthdcalneejhdgaaPure
namespace Go.Proofs.Ythdcalneejhdgaa.Vict
open Go.RowKit Go.Proofs.YthdcalneejhdgaaW.PrintWords Go.Proofs.Ythdcalneejhdgaa.PScoreVictim
set_option linter.unusedVariables false
section
variable (s lean now : Int)
def worth (x : S36) : Int := ofT s x.f1 (sinceG x.f2 now)
def may (x : S36) : Prop := x.f0 = 2 ∧ 0 ≤ x.f1 ∧ x.f1 ≤ lean
theorem worth_nonneg (x : S36) : 0 ≤ worth s now x := (Laws.ofT_range _ _ _).1
theorem vf_hit (l : List S36) (k : Nat) (h : may lean (rd_T36 l k)) (h4 : (vfold s lean now l k).2 < worth s now (rd_T36 l k)) : vfold s lean now l (k + 1) = ((k : Int), worth s now (rd_T36 l k)) := vfold_hit s lean now l k h.1 h.2.1 h.2.2 h4
theorem vf_miss (l : List S36) (k : Nat) (h : ¬ (may lean (rd_T36 l k) ∧ (vfold s lean now l k).2 < worth s now (rd_T36 l k))) : vfold s lean now l (k + 1) = vfold s lean now l k :=
  vfold_miss s lean now l k (fun g => h ⟨⟨g.1, g.2.1, g.2.2.1⟩, g.2.2.2⟩)
/-- What is known of the fold behind k rows. -/
theorem vf_inv (l : List S36) (k : Nat) : (vfold s lean now l k = (0, -1)) ∨ (0 ≤ (vfold s lean now l k).2 ∧ 0 ≤ (vfold s lean now l k).1 ∧ (vfold s lean now l k).1 < k ∧ may lean (rd_T36 l (vfold s lean now l k).1) ∧ (vfold s lean now l k).2 = worth s now (rd_T36 l (vfold s lean now l k).1)) := by
  induction k with
  | zero => exact .inl rfl
  | succ k ih =>
    by_cases h : may lean (rd_T36 l k) ∧ (vfold s lean now l k).2 < worth s now (rd_T36 l k)
    · rw [vf_hit s lean now l k h.1 h.2]
      exact .inr ⟨worth_nonneg s now _, by simp, by simp; omega, h.1, rfl⟩
    · rw [vf_miss s lean now l k h]
      rcases ih with ih | ⟨a, b, c, d, e⟩
      · exact .inl ih
      · exact .inr ⟨a, b, by omega, d, e⟩
theorem vf_low (l : List S36) (k : Nat) : -1 ≤ (vfold s lean now l k).2 := by
  rcases vf_inv s lean now l k with h | h
  · rw [h]; decide
  · omega
theorem rd_left (l m : List S36) (k : Nat) (h : k < l.length) : rd_T36 (l ++ m) k = rd_T36 l k := by
  unfold rd_T36
  rw [Int.toNat_natCast, List.getD_eq_getElem?_getD, List.getElem?_append_left h, List.getD_eq_getElem?_getD]
theorem rd_right (l m : List S36) (k : Nat) : rd_T36 (l ++ m) ((l.length + k : Nat) : Int) = rd_T36 m k := by
  unfold rd_T36
  rw [Int.toNat_natCast, Int.toNat_natCast, List.getD_eq_getElem?_getD, List.getElem?_append_right (by omega), List.getD_eq_getElem?_getD, Nat.add_sub_cancel_left]
theorem vf_left (l m : List S36) (k : Nat) (h : k ≤ l.length) : vfold s lean now (l ++ m) k = vfold s lean now l k := by
  induction k with
  | zero => rfl
  | succ k ih =>
    show vstep s lean now (vfold s lean now (l ++ m) k) k (rd_T36 (l ++ m) k) = vstep s lean now (vfold s lean now l k) k (rd_T36 l k)
    rw [ih (by omega), rd_left l m k (by omega)]
theorem vf_both (l m : List S36) (k : Nat) : vfold s lean now (l ++ m) (l.length + k) = if (vfold s lean now l l.length).2 < (vfold s lean now m k).2 then ((l.length : Int) + (vfold s lean now m k).1, (vfold s lean now m k).2) else vfold s lean now l l.length := by
  induction k with
  | zero =>
    rw [Nat.add_zero, vf_left s lean now l m l.length (Nat.le_refl _), if_neg]
    have := vf_low s lean now l l.length
    show ¬ _ < (-1 : Int)
    omega
  | succ k ih =>
    have hrd := rd_right l m k
    by_cases h : may lean (rd_T36 m k) ∧ (vfold s lean now m k).2 < worth s now (rd_T36 m k)
    · rw [vf_hit s lean now m k h.1 h.2]
      by_cases g : (vfold s lean now (l ++ m) (l.length + k)).2 < worth s now (rd_T36 m k)
      · have := vf_hit s lean now (l ++ m) (l.length + k) (by rw [hrd]; exact h.1) (by rw [hrd]; exact g)
        rw [← Nat.add_assoc, this, hrd, if_pos]
        · simp
        · rw [ih] at g
          split at g <;> simp at * <;> omega
      · have := vf_miss s lean now (l ++ m) (l.length + k) (by rw [hrd]; exact fun q => g q.2)
        rw [← Nat.add_assoc, this]
        rw [ih] at g ⊢
        split at g
        · rename_i g1; simp at g; omega
        · rename_i g1; rw [if_neg g1, if_neg g]
    · rw [vf_miss s lean now m k h]
      rw [← ih]
      rw [← Nat.add_assoc]
      by_cases g : may lean (rd_T36 m k) ∧ (vfold s lean now (l ++ m) (l.length + k)).2 < worth s now (rd_T36 m k)
      · exfalso
        rw [ih] at g
        obtain ⟨g0, g1⟩ := g
        have h1 : ¬ (vfold s lean now m k).2 < worth s now (rd_T36 m k) := fun q => h ⟨g0, q⟩
        split at g1
        · exact h1 g1
        · omega
      · exact vf_miss s lean now (l ++ m) (l.length + k) (by rw [hrd]; exact g)
theorem vf_two (x y : S36) (hx : may lean x) (hy : may lean y) : vfold s lean now [x, y] 2 = if worth s now x < worth s now y then (1, worth s now y) else (0, worth s now x) := by
  have e1 : vfold s lean now [x, y] 1 = (0, worth s now x) := vf_hit s lean now [x, y] 0 hx (by show (-1 : Int) < worth s now x; have := worth_nonneg s now x; omega)
  by_cases h : worth s now x < worth s now y
  · rw [if_pos h]
    exact vf_hit s lean now [x, y] 1 hy (by rw [e1]; exact h)
  · rw [if_neg h, ← e1]
    exact vf_miss s lean now [x, y] 1 (by rw [e1]; exact fun q => h q.2)
/-- The four cases of rows and rows behind them. -/
theorem four (l m : List S36) :
    ((vfold s lean now l l.length).2 < 0 ∧ (vfold s lean now m m.length).2 < 0 ∧ vfold s lean now (l ++ m) (l ++ m).length = (0, -1)) ∨
    ((vfold s lean now l l.length).2 < 0 ∧ 0 ≤ (vfold s lean now m m.length).2 ∧ 0 ≤ (vfold s lean now m m.length).1 ∧ (vfold s lean now m m.length).1 < m.length ∧ vfold s lean now (l ++ m) (l ++ m).length = ((l.length : Int) + (vfold s lean now m m.length).1, (vfold s lean now m m.length).2)) ∨
    (0 ≤ (vfold s lean now l l.length).2 ∧ (vfold s lean now m m.length).2 < 0 ∧ vfold s lean now (l ++ m) (l ++ m).length = vfold s lean now l l.length) ∨
    (0 ≤ (vfold s lean now l l.length).2 ∧ 0 ≤ (vfold s lean now m m.length).2 ∧ 0 ≤ (vfold s lean now l l.length).1 ∧ (vfold s lean now l l.length).1 < l.length ∧ 0 ≤ (vfold s lean now m m.length).1 ∧ (vfold s lean now m m.length).1 < m.length ∧ 0 ≤ (vfold s lean now (l ++ m) (l ++ m).length).2 ∧
      (((vfold s lean now [rd_T36 l (vfold s lean now l l.length).1, rd_T36 m (vfold s lean now m m.length).1] 2).1 = 0 ∧ (vfold s lean now (l ++ m) (l ++ m).length).1 = (vfold s lean now l l.length).1) ∨
       ((vfold s lean now [rd_T36 l (vfold s lean now l l.length).1, rd_T36 m (vfold s lean now m m.length).1] 2).1 = 1 ∧ (vfold s lean now (l ++ m) (l ++ m).length).1 = l.length + (vfold s lean now m m.length).1))) := by
  have hb := vf_both s lean now l m m.length
  have il := vf_inv s lean now l l.length
  have im := vf_inv s lean now m m.length
  rw [← List.length_append] at hb
  rcases il with il | ⟨a1, a2, a3, a4, a5⟩ <;> rcases im with im | ⟨b1, b2, b3, b4, b5⟩
  · refine .inl ⟨by rw [il]; decide, by rw [im]; decide, ?_⟩
    rw [hb, if_neg (by rw [il, im]; decide), il]
  · refine .inr (.inl ⟨by rw [il]; decide, b1, b2, b3, ?_⟩)
    rw [hb, if_pos (by rw [il]; show (-1 : Int) < _; omega)]
  · refine .inr (.inr (.inl ⟨a1, by rw [im]; decide, ?_⟩))
    rw [hb, if_neg (by rw [im]; show ¬ _ < (-1 : Int); omega)]
  · have two := vf_two s lean now _ _ a4 b4
    refine .inr (.inr (.inr ⟨a1, b1, a2, a3, b2, b3, ?_, ?_⟩))
    · rw [hb]; split
      · exact b1
      · exact a1
    · rw [← a5, ← b5] at two
      rw [hb, two]
      by_cases h : (vfold s lean now l l.length).2 < (vfold s lean now m m.length).2
      · rw [if_pos h, if_pos h]; exact .inr ⟨rfl, rfl⟩
      · rw [if_neg h, if_neg h]; exact .inl ⟨rfl, rfl⟩
end
end Go.Proofs.Ythdcalneejhdgaa.Vict
