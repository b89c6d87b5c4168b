/- What the statements' own functions on rows answer (plain laws), and their contracts. -/
import Derived.Test.YtielnpmnnifjcaaAf
namespace Go.Proofs.Ytielnpmnnifjcaa.By
open Go.RowKit Go.Proofs.Ytielnpmnnifjcaa.Reg Go.Proofs.YtielnpmnnifjcaaW.PrintWords Go.Proofs.YtielnpmnnifjcaaW.PrintLast Go.Proofs.YtielnpmnnifjcaaW.PrintMore
set_option linter.unusedVariables false
set_option linter.unusedSimpArgs false


abbrev kBB : Kd (List Int) := Kd.slice 5 kb
theorem eq_loop (x y : List Int) (hl : x.length = y.length) (hm : x.length ≤ 9223372036854775806) (d : Nat) : ∀ (k : Nat) (i : Int), 0 ≤ i → i ≤ x.length → (x.length : Int) - i = d → d < k →
    PArrayPlays.slices_Equal_byte_byte.l0 k x y (x.length : Int) i = some (decide (x.drop i.toNat = y.drop i.toNat)) := by
  induction d with
  | zero =>
    intro k i h0 h1 hd hk
    obtain ⟨k, rfl⟩ : ∃ m, k = m + 1 := ⟨k - 1, by omega⟩
    simp only [PArrayPlays.slices_Equal_byte_byte.l0]
    rw [if_neg (by omega), List.drop_of_length_le (by omega), List.drop_of_length_le (by omega)]
    simp
  | succ d ih =>
    intro k i h0 h1 hd hk
    obtain ⟨k, rfl⟩ : ∃ m, k = m + 1 := ⟨k - 1, by omega⟩
    simp only [PArrayPlays.slices_Equal_byte_byte.l0]
    rw [if_pos (by omega), if_pos h0, if_pos (by omega), if_pos (by omega), rd_at x i h0 (by omega), rd_at y i h0 (by omega)]
    by_cases e : rd x i = rd y i
    · rw [if_pos e, wrap64_in (by omega) (by omega), ih k (i + 1) (by omega) (by omega) (by omega) (by omega), e]
      simp
    · rw [if_neg e]
      simp [e]
theorem eq_eq (k : Nat) (x y : List Int) (hm : x.length ≤ 9223372036854775806) (hk : x.length < k) : PArrayPlays.slices_Equal_byte_byte.f k x y = some (decide (x = y)) := by
  unfold PArrayPlays.slices_Equal_byte_byte.f
  by_cases h : x.length = y.length
  · rw [if_pos (by omega), eq_loop x y h hm x.length k 0 (by omega) (by omega) (by omega) hk]
    simp
  · rw [if_neg (by omega)]
    have : x ≠ y := fun e => h (by rw [e])
    simp [this]
theorem rdL_at (l : List (List Int)) (i : Int) (h0 : 0 ≤ i) (h1 : i < l.length) : l.drop i.toNat = PArrayPlays.rd_L3 l i :: l.drop (i + 1).toNat := by
  have h : i.toNat < l.length := by omega
  rw [List.drop_eq_getElem_cons h, show (i + 1).toNat = i.toNat + 1 by omega]
  unfold PArrayPlays.rd_L3
  rw [List.getD_eq_getElem?_getD, List.getElem?_eq_getElem h]
  rfl
theorem rdL_mem (l : List (List Int)) (i : Int) (h0 : 0 ≤ i) (h1 : i < l.length) : PArrayPlays.rd_L3 l i ∈ l := by
  have h : i.toNat < l.length := by omega
  unfold PArrayPlays.rd_L3
  rw [List.getD_eq_getElem?_getD, List.getElem?_eq_getElem h]
  exact List.getElem_mem h
theorem sameR_loop (x y : List (List Int)) (B : Nat) (hB : B ≤ 100000000) (hl : x.length = y.length) (hm : x.length ≤ 1000000) (hr : ∀ r ∈ x, r.length ≤ B) (d : Nat) : ∀ (k : Nat) (i : Int), 0 ≤ i → i ≤ x.length → (x.length : Int) - i = d → d + B + 1 < k →
    PArrayPlays.rillkit_SameRows.l0 k x y i = some (decide (x.drop i.toNat = y.drop i.toNat)) := by
  induction d with
  | zero =>
    intro k i h0 h1 hd hk
    obtain ⟨k, rfl⟩ : ∃ m, k = m + 1 := ⟨k - 1, by omega⟩
    simp only [PArrayPlays.rillkit_SameRows.l0]
    rw [if_neg (by omega), List.drop_of_length_le (by omega), List.drop_of_length_le (by omega)]
    simp
  | succ d ih =>
    intro k i h0 h1 hd hk
    obtain ⟨k, rfl⟩ : ∃ m, k = m + 1 := ⟨k - 1, by omega⟩
    have hrl := hr _ (rdL_mem x i h0 (by omega))
    simp only [PArrayPlays.rillkit_SameRows.l0]
    rw [if_pos (by omega), if_pos h0, if_pos (by omega), same_eq k _ _ (by omega) (by omega), rdL_at x i h0 (by omega), rdL_at y i h0 (by omega), Option.bind_some]
    by_cases e : PArrayPlays.rd_L3 x i = PArrayPlays.rd_L3 y i
    · rw [if_pos (by simpa using e), wrap64_in (by omega) (by omega), ih k (i + 1) (by omega) (by omega) (by omega) (by omega), e]
      simp
    · rw [if_neg (by simpa using e)]
      simp [e]
theorem sameR_eq (k B : Nat) (x y : List (List Int)) (hB : B ≤ 100000000) (hm : x.length ≤ 1000000) (hr : ∀ r ∈ x, r.length ≤ B) (hk : x.length + B + 1 < k) : PArrayPlays.rillkit_SameRows.f k x y = some (decide (x = y)) := by
  unfold PArrayPlays.rillkit_SameRows.f
  by_cases h : x.length = y.length
  · rw [if_pos (by omega), sameR_loop x y B hB h hm hr x.length k 0 (by omega) (by omega) (by omega) hk]
    simp
  · rw [if_neg (by omega)]
    have : x ≠ y := fun e => h (by rw [e])
    simp [this]
theorem copyR_loop (l : List (List Int)) (B : Nat) (hB : B ≤ 100000000) (hm : l.length ≤ 1000000) (hr : ∀ r ∈ l, r.length ≤ B) (d : Nat) : ∀ (k : Nat) (i : Int), 0 ≤ i → i ≤ l.length → (l.length : Int) - i = d → d + B + 1 < k →
    PArrayPlays.rillkit_CopyRows.l0 k l (l.take i.toNat) i = some l := by
  induction d with
  | zero =>
    intro k i h0 h1 hd hk
    obtain ⟨k, rfl⟩ : ∃ m, k = m + 1 := ⟨k - 1, by omega⟩
    simp only [PArrayPlays.rillkit_CopyRows.l0]
    rw [if_neg (by omega), List.take_of_length_le (by omega)]
  | succ d ih =>
    intro k i h0 h1 hd hk
    obtain ⟨k, rfl⟩ : ∃ m, k = m + 1 := ⟨k - 1, by omega⟩
    have hrl := hr _ (rdL_mem l i h0 (by omega))
    have hil : i.toNat < l.length := by omega
    simp only [PArrayPlays.rillkit_CopyRows.l0]
    rw [if_pos (by omega), if_pos h0, copy_eq k _ (by omega) (by omega), Option.bind_some, if_pos (by rw [List.length_take]; omega), wrap64_in (by omega) (by omega)]
    have key := ih k (i + 1) (by omega) (by omega) (by omega) (by omega)
    rw [show (i + 1).toNat = i.toNat + 1 by omega, List.take_succ_eq_append_getElem hil] at key
    have e : PArrayPlays.rd_L3 l i = l[i.toNat] := by
      unfold PArrayPlays.rd_L3
      rw [List.getD_eq_getElem?_getD, List.getElem?_eq_getElem hil]
      rfl
    rw [e]
    exact key
theorem copyR_eq (k B : Nat) (l : List (List Int)) (hB : B ≤ 100000000) (hm : l.length ≤ 1000000) (hr : ∀ r ∈ l, r.length ≤ B) (hk : l.length + B + 1 < k) : PArrayPlays.rillkit_CopyRows.f k l = some l := by
  unfold PArrayPlays.rillkit_CopyRows.f
  have := copyR_loop l B hB hm hr l.length k 0 (by omega) (by omega) (by omega) hk
  simpa using this
section
variable (w : World) (A B : Option Addr) (c d : Nat)
theorem eq_at (xs ys : List Int) (b : Bool) {n m : Nat} (hn : n = xs.length) (hm : m = ys.length) (hb : b = decide (xs = ys)) (hr : Kd.C kb w A n xs) (hc : n ≤ c) (hr' : Kd.C kb w B m ys) (hc' : m ≤ d) (hl : xs.length ≤ 9223372036854775806) :
    Calls Try.prog 40 #[.slice A n c, .slice B m d] w fun e w' => e = .returned (.bool b) ∧ Ext w w' := by
  subst hn; subst hm; subst hb
  exact (PArrayPlays.slices_Equal_byte_byte.calls (xs.length + 1) A c xs B d ys _ w hr hc hr' hc' (eq_eq _ xs ys hl (by omega))).mono fun e w' h => ⟨h.1, h.2.below⟩
theorem sameR_at (xs ys : List (List Int)) (b : Bool) (N : Nat) (hN : N ≤ 100000000) (hx : xs.length ≤ 1000000) (hrow : ∀ r ∈ xs, r.length ≤ N) {n m : Nat} (hn : n = xs.length) (hm : m = ys.length) (hb : b = decide (xs = ys)) (hr : Kd.C kBB w A n xs) (hc : n ≤ c) (hr' : Kd.C kBB w B m ys) (hc' : m ≤ d) :
    Calls Try.prog 28 #[.slice A n c, .slice B m d] w fun e w' => e = .returned (.bool b) ∧ Ext w w' := by
  subst hn; subst hm; subst hb
  exact (PArrayPlays.rillkit_SameRows.calls (xs.length + N + 2) A c xs B d ys _ w hr hc hr' hc' (sameR_eq _ N xs ys hN hx hrow (by omega))).mono fun e w' h => ⟨h.1, h.2.below⟩
theorem copyR_at (xs : List (List Int)) (N : Nat) (hN : N ≤ 100000000) (hx : xs.length ≤ 1000000) (hrow : ∀ r ∈ xs, r.length ≤ N) {n : Nat} (hn : n = xs.length) (hr : Kd.C kBB w A n xs) (hc : n ≤ c) :
    Calls Try.prog 26 #[.slice A n c] w fun e w' => ∃ A' c', e = .returned (.slice A' n c') ∧ n ≤ c' ∧ Kd.C kBB w' A' n xs ∧ Ext w w' := by
  subst hn
  refine (PArrayPlays.rillkit_CopyRows.calls (xs.length + N + 2) A c xs xs w hr hc (copyR_eq _ N xs hN hx hrow (by omega))).mono fun e w' ⟨v, he, hs, hb⟩ => ?_
  obtain ⟨A', c', e1, hl, hC⟩ := Kd.R_reads (Kd.S_R hs)
  subst e1
  exact ⟨A', c', he, hl, hC, hb⟩
end
end Go.Proofs.Ytielnpmnnifjcaa.By
