/- Plain laws of layer 17: what the printed functions of the lists and of the document's victim come to. -/
import Derived.Test.YthdcalneejhdgaaVict
namespace Go.Proofs.Ythdcalneejhdgaa.Vict
open Go.RowKit Go.Proofs.YthdcalneejhdgaaW.PrintWords Go.Proofs.YthdcalneejhdgaaW.PrintLast Go.Proofs.YthdcalneejhdgaaW.PrintMore Go.Proofs.Ythdcalneejhdgaa.PScoreVictim
set_option linter.unusedVariables false

theorem rd36_at (l : List S36) (i : Int) (h0 : 0 ≤ i) (h1 : i < l.length) : l.drop i.toNat = rd_T36 l i :: l.drop (i + 1).toNat := by
  have h : i.toNat < l.length := by omega
  rw [List.drop_eq_getElem_cons h, show (i + 1).toNat = i.toNat + 1 by omega]
  unfold rd_T36
  rw [List.getD_eq_getElem?_getD, List.getElem?_eq_getElem h]
  rfl
theorem ne36 (x y : S36) : ((!(x.f0 == y.f0) || (!(x.f1 == y.f1) || (!(x.f2 == y.f2)))) = true) ↔ x ≠ y := by
  obtain ⟨a, b, c⟩ := x
  obtain ⟨d, e, f⟩ := y
  simp only [Bool.or_eq_true, Bool.not_eq_true', beq_eq_false_iff_ne, ne_eq, S36.mk.injEq]
  omega
instance : DecidableEq S36 := fun x y => if h : x.f0 = y.f0 ∧ x.f1 = y.f1 ∧ x.f2 = y.f2 then isTrue (by cases x; cases y; simp_all) else isFalse (fun e => h (by subst e; exact ⟨rfl, rfl, rfl⟩))

theorem same_loop (x y : List S36) (hl : x.length = y.length) (hm : x.length ≤ 9223372036854775806) (d : Nat) : ∀ (k : Nat) (i : Int), 0 ≤ i → i ≤ x.length → (x.length : Int) - i = d → d < k →
    rillkit_SameSegs.l0 k x y i = some (decide (x.drop i.toNat = y.drop i.toNat)) := by
  induction d with
  | zero =>
    intro k i h0 h1 hd hk
    obtain ⟨k, rfl⟩ : ∃ m, k = m + 1 := ⟨k - 1, by omega⟩
    simp only [rillkit_SameSegs.l0]
    rw [if_neg (by omega), List.drop_of_length_le (by omega), List.drop_of_length_le (by omega)]
    simp
  | succ d ih =>
    intro k i h0 h1 hd hk
    obtain ⟨k, rfl⟩ : ∃ m, k = m + 1 := ⟨k - 1, by omega⟩
    simp only [rillkit_SameSegs.l0]
    rw [if_pos (by omega), if_pos h0, if_pos (by omega), rd36_at x i h0 (by omega), rd36_at y i h0 (by omega)]
    by_cases e : rd_T36 x i = rd_T36 y i
    · rw [if_neg (by rw [ne36]; simp [e]), wrap64_in (by omega) (by omega), ih k (i + 1) (by omega) (by omega) (by omega) (by omega), e]
      simp
    · rw [if_pos (by rw [ne36]; exact e)]
      simp [e]
theorem same_eq (k : Nat) (x y : List S36) (hm : x.length ≤ 9223372036854775806) (hk : x.length < k) : rillkit_SameSegs.f k x y = some (decide (x = y)) := by
  unfold rillkit_SameSegs.f
  by_cases h : x.length = y.length
  · rw [if_pos (by omega), same_loop x y h hm x.length k 0 (by omega) (by omega) (by omega) hk]
    simp
  · rw [if_neg (by omega)]
    have : x ≠ y := fun e => h (by rw [e])
    simp [this]
def mk36 : S36 := ⟨-77, 0, 0⟩
def lent (l : List S36) : List S36 := l ++ List.replicate 5 mk36
theorem lent_length (l : List S36) : (lent l).length = l.length + 5 := by simp [lent]
theorem kept_loop (l : List S36) (hm : l.length ≤ 9223372036854775801) (d : Nat) : ∀ (k : Nat) (i : Int), l.length ≤ i → i ≤ l.length + 5 → (l.length : Int) + 5 - i = d → d < k → rillkit_KeptSegs.l0 k (lent l) i = some true := by
  induction d with
  | zero =>
    intro k i h0 h1 hd hk
    obtain ⟨k, rfl⟩ : ∃ m, k = m + 1 := ⟨k - 1, by omega⟩
    simp only [rillkit_KeptSegs.l0]
    rw [lent_length, if_neg (by omega)]
  | succ d ih =>
    intro k i h0 h1 hd hk
    obtain ⟨k, rfl⟩ : ∃ m, k = m + 1 := ⟨k - 1, by omega⟩
    simp only [rillkit_KeptSegs.l0]
    have e : rd_T36 (lent l) i = mk36 := by
      unfold rd_T36 lent
      rw [List.getD_eq_getElem?_getD, List.getElem?_append_right (by omega), List.getElem?_replicate, if_pos (by omega)]
      rfl
    rw [e, lent_length, if_pos (by omega), if_pos (by omega), if_neg (by decide), wrap64_in (by omega) (by omega)]
    exact ih k (i + 1) (by omega) (by omega) (by omega) (by omega)
theorem kept_eq (k : Nat) (l : List S36) (hm : l.length ≤ 9223372036854775801) (hk : l.length + 8 < k) : rillkit_KeptSegs.f k (lent l) l = some true := by
  unfold rillkit_KeptSegs.f
  rw [lent_length, wrap64_in (x := (l.length : Int) + 5) (by omega) (by omega), if_pos (by omega), if_pos (by omega), if_pos (by omega), Int.toNat_natCast]
  have e : (lent l).take l.length = l := by simp [lent]
  rw [e, same_eq k l l (by omega) (by omega)]
  obtain ⟨k, rfl⟩ : ∃ m, k = m + 1 := ⟨k - 1, by omega⟩
  simp only [Option.bind_some, decide_true, Bool.not_true, rillkit_KeptSegs.j0, Bool.false_eq_true, if_false]
  exact kept_loop l hm 5 k l.length (by omega) (by omega) (by omega) (by omega)
theorem set_at (T : List S36) (i : Nat) (hi : i < T.length) (n : Nat) (v : S36) : (T.take i ++ List.replicate (n + 1) z36).set i v = T.take i ++ v :: List.replicate n z36 := by
  rw [List.set_append_right i v (by rw [List.length_take]; omega)]
  have : i - (T.take i).length = 0 := by rw [List.length_take]; omega
  rw [this, List.replicate_succ, List.set_cons_zero]
theorem lent_lo (l : List S36) (i : Nat) (h : i < (lent l).length) (hi : i < l.length) : (lent l)[i] = l[i] := List.getElem_append_left hi
theorem lent_hi (l : List S36) (i : Nat) (h : i < (lent l).length) (hi : l.length ≤ i) : (lent l)[i] = mk36 := by
  have e : (l ++ List.replicate 5 mk36)[i]? = some mk36 := by
    rw [List.getElem?_append_right hi, List.getElem?_replicate, if_pos (by rw [lent_length] at h; omega)]
  exact Option.some.inj ((List.getElem?_eq_getElem h).symm.trans e)
theorem lent_loop (l : List S36) (hm : l.length ≤ 9223372036854775801) (d : Nat) : ∀ (k : Nat) (i : Int), 0 ≤ i → i ≤ l.length + 5 → (l.length : Int) + 5 - i = d → d < k →
    rillkit_LentSegs.l0 k l ((lent l).take i.toNat ++ List.replicate d z36) i = some (lent l) := by
  induction d with
  | zero =>
    intro k i h0 h1 hd hk
    obtain ⟨k, rfl⟩ : ∃ m, k = m + 1 := ⟨k - 1, by omega⟩
    simp only [rillkit_LentSegs.l0, List.replicate_zero, List.append_nil]
    rw [List.take_of_length_le (by rw [lent_length]; omega), lent_length, if_neg (by omega)]
  | succ d ih =>
    intro k i h0 h1 hd hk
    obtain ⟨k, rfl⟩ : ∃ m, k = m + 1 := ⟨k - 1, by omega⟩
    have hil : i.toNat < (lent l).length := by rw [lent_length]; omega
    simp only [rillkit_LentSegs.l0]
    rw [List.length_append, List.length_take, lent_length, List.length_replicate, if_pos (by omega), if_pos h0, set_at _ _ hil]
    simp only [Option.bind_some]
    have hn : (i + 1).toNat = i.toNat + 1 := by omega
    have key := ih k (i + 1) (by omega) (by omega) (by omega) (by omega)
    rw [hn, List.take_succ_eq_append_getElem hil, List.append_assoc] at key
    by_cases hlt : i < (l.length : Int)
    · rw [if_pos hlt, wrap64_in (by omega) (by omega)]
      have e : (lent l)[i.toNat] = rd_T36 l i := by
        rw [lent_lo l i.toNat hil (by omega)]
        unfold rd_T36
        rw [List.getD_eq_getElem?_getD, List.getElem?_eq_getElem (by omega)]
        rfl
      rw [e] at key
      rw [List.set_append_right _ _ (by rw [List.length_take]; omega)]
      have : i.toNat - ((lent l).take i.toNat).length = 0 := by rw [List.length_take]; omega
      rw [this, List.set_cons_zero]
      exact key
    · rw [if_neg hlt, wrap64_in (by omega) (by omega)]
      have e : (lent l)[i.toNat] = mk36 := lent_hi l i.toNat hil (by omega)
      rw [e] at key
      exact key
theorem lent_eq (k : Nat) (l : List S36) (hm : l.length ≤ 11728124029605) (hk : l.length + 5 < k) : rillkit_LentSegs.f k l = some (lent l) := by
  unfold rillkit_LentSegs.f
  rw [wrap64_in (x := (l.length : Int) + 5) (by omega) (by omega), if_pos (by omega), if_pos (by omega)]
  have := lent_loop l (by omega) (l.length + 5) k 0 (by omega) (by omega) (by omega) hk
  rw [show ((l.length : Int) + 5).toNat = l.length + 5 by omega]
  simpa using this

theorem age_eq (now th : Int) (h0 : -9223372036854775808 ≤ now) (h1 : now ≤ 9223372036854775807) (h2 : -9223372036854775808 ≤ th) (h3 : th ≤ 9223372036854775807) : rillref17_Age.f now th = some (sinceG th now) := by
  rw [← since_some, since_eq th now h2 h3 h0 h1]
  unfold rillref17_Age.f sinceT
  by_cases a : now ≤ th
  · rw [if_pos a, if_pos a]
  · rw [if_neg a, if_neg a]
    by_cases b : th < 0
    · rw [if_pos b, wrap64_in (x := th + 1099511627776) (by omega) (by omega)]
      by_cases c : now > th + 1099511627776
      · rw [if_pos c, if_neg (by omega)]
      · rw [if_neg c, if_neg (by omega), wrap64_in (by omega) (by omega)]
        by_cases d : now - th < 1099511627776
        · rw [if_pos d]
        · rw [if_neg d]; congr 1; omega
    · rw [if_neg b, if_pos (by omega), wrap64_in (x := now - th) (by omega) (by omega)]
      by_cases c : now - th > 1099511627776
      · rw [if_pos c, if_neg (by omega)]
      · rw [if_neg c]
        by_cases d : now - th < 1099511627776
        · rw [if_pos d]
        · rw [if_neg d]; congr 1; omega
theorem rof_eq (a b c : Int) : rillref17_Of.f a b c = some (ofT a b c) := of_eq a b c

theorem ref_loop (slots lean now : Int) (l : List S36) (hm : l.length ≤ 9223372036854775806) (h0 : -9223372036854775808 ≤ now) (h1 : now ≤ 9223372036854775807) (hx : ∀ x ∈ l, -9223372036854775808 ≤ x.f2 ∧ x.f2 ≤ 9223372036854775807) (d : Nat) : ∀ (k : Nat) (i : Int), 0 ≤ i → i ≤ l.length → (l.length : Int) - i = d → 2 * d < k →
    rillref17_Victim.l0 k l slots lean now (vfold slots lean now l i.toNat).2 (vfold slots lean now l i.toNat).1 i = some ((vfold slots lean now l l.length).1, decide (0 ≤ (vfold slots lean now l l.length).2)) := by
  induction d with
  | zero =>
    intro k i g0 g1 hd hk
    obtain ⟨k, rfl⟩ : ∃ m, k = m + 1 := ⟨k - 1, by omega⟩
    simp only [rillref17_Victim.l0]
    rw [if_neg (by omega), show i.toNat = l.length by omega]
  | succ d ih =>
    intro k i g0 g1 hd hk
    obtain ⟨k, rfl⟩ : ∃ m, k = m + 2 := ⟨k - 2, by omega⟩
    have key := ih k (i + 1) (by omega) (by omega) (by omega) (by omega)
    have hw : wrap64 (i + 1) = i + 1 := wrap64_in (by omega) (by omega)
    rw [show (i + 1).toNat = i.toNat + 1 by omega] at key
    have hmem : rd_T36 l i ∈ l := by
      unfold rd_T36
      rw [List.getD_eq_getElem?_getD, List.getElem?_eq_getElem (show i.toNat < l.length by omega)]
      exact List.getElem_mem _
    have hage := age_eq now (rd_T36 l i).f2 h0 h1 (hx _ hmem).1 (hx _ hmem).2
    have hhit := vfold_hit slots lean now l i.toNat
    have hmiss := vfold_miss slots lean now l i.toNat
    rw [Int.toNat_of_nonneg g0] at hhit hmiss
    simp only [rillref17_Victim.l0]
    rw [if_pos (by omega), if_pos g0]
    have skip : ∀ b, b = true → rillref17_Victim.j1 (k + 1) l slots lean now (vfold slots lean now l i.toNat).2 (vfold slots lean now l i.toNat).1 i b = rillref17_Victim.l0 k l slots lean now (vfold slots lean now l i.toNat).2 (vfold slots lean now l i.toNat).1 (i + 1) := by
      intro b hb
      simp only [rillref17_Victim.j1]
      rw [if_pos hb, hw]
    by_cases c1 : (rd_T36 l i).f0 = 2
    · rw [if_pos c1]
      by_cases c2 : (rd_T36 l i).f1 < 0
      · rw [if_pos c2, skip _ rfl]
        rw [hmiss (fun h => by omega)] at key
        exact key
      · rw [if_neg c2]
        by_cases c3 : (rd_T36 l i).f1 > lean
        · rw [skip _ (decide_eq_true c3)]
          rw [hmiss (fun h => by omega)] at key
          exact key
        · simp only [rillref17_Victim.j1]
          rw [if_neg (by simp; omega), if_pos g0, if_pos (by omega), hage]
          simp only [Option.bind_some]
          rw [rof_eq]
          simp only [Option.bind_some]
          by_cases c4 : ofT slots (rd_T36 l i).f1 (sinceG (rd_T36 l i).f2 now) > (vfold slots lean now l i.toNat).2
          · rw [if_pos c4, hw]
            rw [hhit c1 (by omega) (by omega) c4] at key
            exact key
          · rw [if_neg c4, hw]
            rw [hmiss (fun h => c4 h.2.2.2)] at key
            exact key
    · rw [if_neg c1, skip _ rfl]
      rw [hmiss (fun h => c1 h.1)] at key
      exact key
theorem ref_eq (k : Nat) (slots lean now : Int) (l : List S36) (hm : l.length ≤ 9223372036854775806) (h0 : -9223372036854775808 ≤ now) (h1 : now ≤ 9223372036854775807) (hx : ∀ x ∈ l, -9223372036854775808 ≤ x.f2 ∧ x.f2 ≤ 9223372036854775807) (hk : 2 * l.length < k) :
    rillref17_Victim.f k l slots lean now = some ((vfold slots lean now l l.length).1, decide (0 ≤ (vfold slots lean now l l.length).2)) := by
  unfold rillref17_Victim.f
  exact ref_loop slots lean now l hm h0 h1 hx l.length k 0 (by omega) (by omega) (by omega) hk
end Go.Proofs.Ythdcalneejhdgaa.Vict
