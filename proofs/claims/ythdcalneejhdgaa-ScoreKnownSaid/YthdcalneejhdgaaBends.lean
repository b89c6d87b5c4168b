/- The walk of ScoreBends. -/
import Derived.Test.YthdcalneejhdgaaLaws
namespace Go.Proofs.Ythdcalneejhdgaa.Laws
open Go.RowKit Go.Proofs.Ythdcalneejhdgaa.Reg Go.Proofs.YthdcalneejhdgaaW.PrintWords Go.Proofs.YthdcalneejhdgaaW.PrintLast Go.Proofs.YthdcalneejhdgaaW.PrintMore Go.Proofs.Ythdcalneejhdgaa.PScoreVictim Go.Proofs.Ythdcalneejhdgaa.Vict
attribute [local go_sem] max2_int min2_int max_two min_two max_three min_three max_four min_four
set_option linter.unusedVariables false

theorem ofT_in (s l a : Int) (h : ¬ (s < 1 ∨ s > 64 ∨ l < 0 ∨ l > s ∨ a < 0 ∨ a > 1099511627776)) : ofT s l a = (s - l) * (a + 1) * 1000 / (s + l) := by unfold ofT; rw [if_neg h]
theorem ofT_range (s l a : Int) : 0 ≤ ofT s l a ∧ ofT s l a ≤ 70368744177728000 := by
  unfold ofT
  split
  · omega
  · rename_i h
    simp only [not_or, Int.not_lt] at h
    obtain ⟨h1, h2, h3, h4, h5, h6⟩ := h
    have p0 : 0 ≤ (s - l) * (a + 1) := Int.mul_nonneg (by omega) (by omega)
    have p1 : (s - l) * (a + 1) ≤ 64 * 1099511627777 := Int.mul_le_mul (by omega) (by omega) (by omega) (by omega)
    have q0 : 0 ≤ (s - l) * (a + 1) * 1000 / (s + l) := Int.ediv_nonneg (by omega) (by omega)
    have q1 : (s - l) * (a + 1) * 1000 / (s + l) ≤ (s - l) * (a + 1) * 1000 := Int.ediv_le_self _ (by omega)
    omega
theorem ofT_out (s l a : Int) (h : ¬ l < s) : ofT s l a = 0 := by
  unfold ofT
  split
  · rfl
  · have : s - l = 0 := by omega
    rw [this]; simp
theorem ofT_older (s l a b : Int) (h1 : 1 ≤ s) (h2 : s ≤ 64) (h3 : 0 ≤ l) (h4 : l < s) (h5 : 0 ≤ a) (h6 : a ≤ b) (h7 : b ≤ 1099511627776) : ofT s l a ≤ ofT s l b := by
  rw [ofT_in s l a (by omega), ofT_in s l b (by omega)]
  refine Int.ediv_le_ediv (by omega) ?_
  have : (s - l) * (a + 1) ≤ (s - l) * (b + 1) := Int.mul_le_mul_of_nonneg_left (by omega) (by omega)
  omega
theorem ofT_more (s l a : Int) (h1 : 1 ≤ s) (h2 : s ≤ 64) (h3 : 0 ≤ l) (h4 : l < s) (h5 : 0 ≤ a) (h7 : a ≤ 1099511627776) : ofT s (l + 1) a ≤ ofT s l a := by
  rw [ofT_in s l a (by omega), ofT_in s (l + 1) a (by omega)]
  have e1 : (s - (l + 1)) * (a + 1) ≤ (s - l) * (a + 1) := Int.mul_le_mul_of_nonneg_right (by omega) (by omega)
  have e0 : 0 ≤ (s - (l + 1)) * (a + 1) := Int.mul_nonneg (by omega) (by omega)
  refine Int.le_trans (Int.ediv_le_ediv (by omega) (by omega : (s - (l + 1)) * (a + 1) * 1000 ≤ (s - l) * (a + 1) * 1000)) ?_
  have d : 0 ≤ (s - l) * (a + 1) * 1000 := by omega
  refine Int.le_ediv_of_mul_le (by omega) ?_
  have q := Int.ediv_mul_le ((s - l) * (a + 1) * 1000) (show s + (l + 1) ≠ 0 by omega)
  have qn : 0 ≤ (s - l) * (a + 1) * 1000 / (s + (l + 1)) := Int.ediv_nonneg d (by omega)
  have : (s - l) * (a + 1) * 1000 / (s + (l + 1)) * (s + l) ≤ (s - l) * (a + 1) * 1000 / (s + (l + 1)) * (s + (l + 1)) := Int.mul_le_mul_of_nonneg_left (by omega) qn
  omega
theorem ofT_pos (s l a : Int) (h1 : 1 ≤ s) (h2 : s ≤ 64) (h3 : 0 ≤ l) (h4 : l < s) (h5 : 0 ≤ a) (h7 : a ≤ 1099511627776) : 0 < ofT s l a := by
  rw [ofT_in s l a (by omega)]
  have e1 : 1 * 1 ≤ (s - l) * (a + 1) := Int.mul_le_mul (by omega) (by omega) (by omega) (by omega)
  have : s + l ≤ (s - l) * (a + 1) * 1000 := by omega
  have := Int.ediv_le_ediv (show 0 < s + l by omega) this
  rw [Int.ediv_self (by omega)] at this
  omega

set_option maxHeartbeats 2000000 in
theorem bends_inv (s l a m : Int) (w : World) (h : s < 1 ∨ s > 64 ∨ l < 0 ∨ l ≥ s ∨ a < 0 ∨ a ≥ 1099511627776) : Calls Try.prog 5 #[.int .i64 s, .int .i64 l, .int .i64 a, .int .i64 m] w fun e w' => e = .returned (.bool true) ∧ Ext w w' := by
  have hr := ofT_range s l a
  have ho := ofT_out s l a
  have hd : decide (s < 1) = true ∨ (decide (s < 1) = false ∧ decide (64 < s) = true) ∨ (decide (s < 1) = false ∧ decide (64 < s) = false ∧ decide (l < 0) = true) ∨ (decide (s < 1) = false ∧ decide (64 < s) = false ∧ decide (l < 0) = false ∧ decide (s ≤ l) = true) ∨
      (decide (s < 1) = false ∧ decide (64 < s) = false ∧ decide (l < 0) = false ∧ decide (s ≤ l) = false ∧ decide (a < 0) = true) ∨ (decide (s < 1) = false ∧ decide (64 < s) = false ∧ decide (l < 0) = false ∧ decide (s ≤ l) = false ∧ decide (a < 0) = false ∧ decide (1099511627776 ≤ a) = true) := by
    simp only [decide_eq_true_eq, decide_eq_false_iff_not]; omega
  clear h
  obtain ⟨x, hx⟩ : ∃ x, x = ofT s l a := ⟨_, rfl⟩
  rw [← hx] at hr ho
  have HX := Lib.hid hx
  clear hx
  have x0 : decide (x < 0) = false := decide_eq_false (by omega)
  have x1 : decide (70368744177728000 < x) = false := decide_eq_false (by omega)
  have hl : decide (l < s) = true ∨ (decide (l < s) = false ∧ (x == 0) = true) := by
    by_cases g : l < s
    · exact .inl (decide_eq_true g)
    · exact .inr ⟨decide_eq_false g, by simp [ho g]⟩
  clear ho hr
  go_enter Try.func5, Try.ntmps5
  go_wp2_with fail
  refine (of_at s l a x _ HX.out.symm).mono ?_
  rintro e w1 ⟨rfl, hE⟩
  rcases hd with d1 | ⟨d1, d2⟩ | ⟨d1, d2, d3⟩ | ⟨d1, d2, d3, d4⟩ | ⟨d1, d2, d3, d4, d5⟩ | ⟨d1, d2, d3, d4, d5, d6⟩
  all_goals
    rcases hl with g | ⟨g, g'⟩
    all_goals
      go_wp2_with fail
      refine (known_calls _).mono ?_
      rintro e w3 ⟨rfl, hE3⟩
      have hE4 := hE.trans hE3
      clear hE hE3
      go_wp2
      go_ret
      exact ⟨rfl, hE4⟩

theorem older_in (a m : Int) (h5 : 0 ≤ a) (h6 : a < 1099511627776) (m0 : -9223372036854775808 ≤ m) (m1 : m ≤ 9223372036854775807) : a ≤ a + 1 + max 0 (min m (1099511627776 - a - 1)) ∧ a + 1 + max 0 (min m (1099511627776 - a - 1)) ≤ 1099511627776 := by omega

set_option maxHeartbeats 2000000 in
theorem bends_ok (s l a m : Int) (w : World) (h1 : 1 ≤ s) (h2 : s ≤ 64) (h3 : 0 ≤ l) (h4 : l < s) (h5 : 0 ≤ a) (h6 : a < 1099511627776) (m0 : -9223372036854775808 ≤ m) (m1 : m ≤ 9223372036854775807) :
    Calls Try.prog 5 #[.int .i64 s, .int .i64 l, .int .i64 a, .int .i64 m] w fun e w' => e = .returned (.bool true) ∧ Ext w w' := by
  have hr := ofT_range s l a
  have ho := older_in a m h5 h6 m0 m1
  have hp := ofT_pos s l a h1 h2 h3 h4 h5 (by omega)
  have e1 := ofT_older s l a _ h1 h2 h3 h4 h5 ho.1 ho.2
  have e2 := ofT_more s l a h1 h2 h3 h4 h5 (by omega)
  have e3 := ofT_out s s a (by omega)
  obtain ⟨b, hb⟩ : ∃ b, b = a + 1 + max 0 (min m (1099511627776 - a - 1)) := ⟨_, rfl⟩
  rw [← hb] at ho e1
  obtain ⟨x, hx⟩ : ∃ x, x = ofT s l a := ⟨_, rfl⟩
  rw [← hx] at hr hp e1 e2
  obtain ⟨y, hy⟩ : ∃ y, y = ofT s l b := ⟨_, rfl⟩
  rw [← hy] at e1
  obtain ⟨z, hz⟩ : ∃ z, z = ofT s (l + 1) a := ⟨_, rfl⟩
  rw [← hz] at e2
  have HX := Lib.hid hx
  have HY := Lib.hid hy
  have HZ := Lib.hid hz
  have H0 := Lib.hid e3
  have HB := Lib.hid hb
  clear hx hy hz e3 hb
  have x0 : decide (x < 0) = false := decide_eq_false (by omega)
  have x1 : decide (70368744177728000 < x) = false := decide_eq_false (by omega)
  have d1 : decide (s < 1) = false := decide_eq_false (by omega)
  have d2 : decide (64 < s) = false := decide_eq_false (by omega)
  have d3 : decide (l < 0) = false := decide_eq_false (by omega)
  have d4 : decide (s ≤ l) = false := decide_eq_false (by omega)
  have d5 : decide (a < 0) = false := decide_eq_false (by omega)
  have d6 : decide (1099511627776 ≤ a) = false := decide_eq_false (by omega)
  have g1 : decide (x ≤ y) = true := decide_eq_true e1
  have g2 : decide (z ≤ x) = true := decide_eq_true e2
  have g3 : decide (0 < x) = true := decide_eq_true hp
  go_enter Try.func5, Try.ntmps5
  go_wp2_with fail
  refine (of_at s l a x _ HX.out.symm).mono ?_
  rintro e w1 ⟨rfl, hE⟩
  go_wp2_with fail
  all_goals
    refine (of_at s l _ y _ (HY.out.symm ▸ congrArg (ofT s l) (by rw [HB.out]; simp only [Int.max_def, Int.min_def]; split <;> split <;> simp_all <;> omega))).mono ?_
    rintro e w2 ⟨rfl, hE2⟩
    go_wp2_with fail
    refine (of_at s (l + 1) a z _ HZ.out.symm).mono ?_
    rintro e w3 ⟨rfl, hE3⟩
    go_wp2_with fail
    refine (of_at s s a 0 _ H0.out).mono ?_
    rintro e w4 ⟨rfl, hE4⟩
    go_wp2_with fail
    refine (known_calls _).mono ?_
    rintro e w5 ⟨rfl, hE5⟩
    have hE6 := (((hE.trans hE2).trans hE3).trans hE4).trans hE5
    clear hE hE2 hE3 hE4 hE5
    go_wp2
    go_ret
    exact ⟨rfl, hE6⟩
theorem bends_calls (s l a m : Int) (w : World) (hm : -9223372036854775808 ≤ m ∧ m ≤ 9223372036854775807) : Calls Try.prog 5 #[.int .i64 s, .int .i64 l, .int .i64 a, .int .i64 m] w fun e w' => e = .returned (.bool true) ∧ Ext w w' := by
  by_cases h : s < 1 ∨ s > 64 ∨ l < 0 ∨ l ≥ s ∨ a < 0 ∨ a ≥ 1099511627776
  · exact bends_inv s l a m w h
  · exact bends_ok s l a m w (by omega) (by omega) (by omega) (by omega) (by omega) (by omega) hm.1 hm.2
end Go.Proofs.Ythdcalneejhdgaa.Laws
