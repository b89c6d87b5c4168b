/- The document's words and rows are the plain functions'. -/
import Derived.Test.YtbnbncnmhhioeaaDoorSTake
namespace Go.Proofs.YtbnbncnmhhioeaaDoor.By
open Go.RowKit Go.Proofs.YtbnbncnmhhioeaaDoor.Reg Go.Proofs.YtbnbncnmhhioeaaDoorW.PrintWords Go.Proofs.YtbnbncnmhhioeaaDoorW.PrintLast Go.Proofs.YtbnbncnmhhioeaaDoorW.PrintMore
set_option linter.unusedVariables false

theorem rotr_eq (n x : Int) (h0 : 0 ≤ n) (h1 : n ≤ 32) : PShaAdds.rillref01_rotr.f n x = some (rotF n x) := by
  unfold PShaAdds.rillref01_rotr.f rotF
  rw [if_pos h0, if_pos (by simp [IntKind.wrap, IntKind.signed, IntKind.bits]; omega)]
theorem words_step (k : Nat) (L : List Int) (x : Int) (h0 : 16 ≤ x) (h1 : x < 64) (hl : (L.length : Int) = x) :
    PShaAdds.rillref01_words.l1 (k + 1) L x = PShaAdds.rillref01_words.l1 k (L ++ [wNext L x]) (x + 1) := by
  have e2 : wrap64 (x - 2) = x - 2 := wrap64_in (by omega) (by omega)
  have e15 : wrap64 (x - 15) = x - 15 := wrap64_in (by omega) (by omega)
  have e7 : wrap64 (x - 7) = x - 7 := wrap64_in (by omega) (by omega)
  have e16 : wrap64 (x - 16) = x - 16 := wrap64_in (by omega) (by omega)
  have e1 : wrap64 (x + 1) = x + 1 := wrap64_in (by omega) (by omega)
  have hs : L.length < 35184372088832 := by omega
  have r17 : ∀ y, PShaAdds.rillref01_rotr.f 17 y = some (rotF 17 y) := fun y => rotr_eq 17 y (by decide) (by decide)
  have r19 : ∀ y, PShaAdds.rillref01_rotr.f 19 y = some (rotF 19 y) := fun y => rotr_eq 19 y (by decide) (by decide)
  have r7 : ∀ y, PShaAdds.rillref01_rotr.f 7 y = some (rotF 7 y) := fun y => rotr_eq 7 y (by decide) (by decide)
  have r18 : ∀ y, PShaAdds.rillref01_rotr.f 18 y = some (rotF 18 y) := fun y => rotr_eq 18 y (by decide) (by decide)
  have c1 : (0 : Int) ≤ x - 2 := by omega
  have c2 : x - 2 < (L.length : Int) := by omega
  have c3 : (0 : Int) ≤ x - 15 := by omega
  have c4 : x - 15 < (L.length : Int) := by omega
  have c5 : (0 : Int) ≤ x - 7 := by omega
  have c6 : x - 7 < (L.length : Int) := by omega
  have c7 : (0 : Int) ≤ x - 16 := by omega
  have c8 : x - 16 < (L.length : Int) := by omega
  rw [PShaAdds.rillref01_words.l1]
  simp only [e2, e15, e7, e16, e1, r17, r19, r7, r18, Option.bind_some]
  rw [if_pos h1, if_pos c1, if_pos c2, if_pos c3, if_pos c4, if_pos c5, if_pos c6, if_pos c7, if_pos c8, if_pos hs]
  rfl
theorem words_l1 (F : List Int) (hF : F.length = 16) (d : Nat) : ∀ (k n : Nat), n ≤ 48 → 48 - n = d → d < k → PShaAdds.rillref01_words.l1 k (wordsA n F) ((16 + n : Nat) : Int) = some (wordsA 48 F) := by
  induction d with
  | zero =>
    intro k n h1 h2 h3
    obtain ⟨k, rfl⟩ : ∃ k', k = k' + 1 := ⟨k - 1, by omega⟩
    have hn : n = 48 := by omega
    subst hn
    have hc : ¬ (((16 + 48 : Nat) : Int) < 64) := by decide
    rw [PShaAdds.rillref01_words.l1, if_neg hc]
  | succ d ih =>
    intro k n h1 h2 h3
    obtain ⟨k, rfl⟩ : ∃ k', k = k' + 1 := ⟨k - 1, by omega⟩
    have hl : (wordsA n F).length = 16 + n := by rw [wordsA_length, hF]
    rw [words_step k (wordsA n F) _ (by omega) (by omega) (by rw [hl])]
    have := ih k (n + 1) (by omega) (by omega) (by omega)
    have hs : wordsA (n + 1) F = wordsA n F ++ [wNext (wordsA n F) ((16 + n : Nat) : Int)] := by
      show wordsA n F ++ [wNext (wordsA n F) ((wordsA n F).length : Int)] = _
      rw [hl]
    rw [hs, show ((16 + (n + 1) : Nat) : Int) = ((16 + n : Nat) : Int) + 1 by omega] at this
    exact this
theorem words_step0 (k : Nat) (b L : List Int) (x : Int) (hb : b.length = 64) (h0 : 0 ≤ x) (h1 : x < 16) (hl : (L.length : Int) = x) :
    PShaAdds.rillref01_words.l0 (k + 1) b L x = PShaAdds.rillref01_words.l0 k b (L ++ [w0 b x]) (x + 1) := by
  have e0 : wrap64 (4 * x) = 4 * x := wrap64_in (by omega) (by omega)
  have e1 : wrap64 (4 * x + 1) = 4 * x + 1 := wrap64_in (by omega) (by omega)
  have e2 : wrap64 (4 * x + 2) = 4 * x + 2 := wrap64_in (by omega) (by omega)
  have e3 : wrap64 (4 * x + 3) = 4 * x + 3 := wrap64_in (by omega) (by omega)
  have e4 : wrap64 (x + 1) = x + 1 := wrap64_in (by omega) (by omega)
  have hs : L.length < 35184372088832 := by omega
  have c1 : (0 : Int) ≤ 4 * x := by omega
  have c2 : 4 * x < (b.length : Int) := by omega
  have c3 : (0 : Int) ≤ 4 * x + 1 := by omega
  have c4 : 4 * x + 1 < (b.length : Int) := by omega
  have c5 : (0 : Int) ≤ 4 * x + 2 := by omega
  have c6 : 4 * x + 2 < (b.length : Int) := by omega
  have c7 : (0 : Int) ≤ 4 * x + 3 := by omega
  have c8 : 4 * x + 3 < (b.length : Int) := by omega
  rw [PShaAdds.rillref01_words.l0]
  simp only [e0, e1, e2, e3, e4]
  rw [if_pos h1, if_pos c1, if_pos c2, if_pos c3, if_pos c4, if_pos c5, if_pos c6, if_pos c7, if_pos c8, if_pos hs]
  rfl
theorem words_l0 (b : List Int) (hb : b.length = 64) (d : Nat) : ∀ (k i : Nat), i ≤ 16 → 16 - i = d → d + 50 ≤ k → PShaAdds.rillref01_words.l0 k b (first16 b i) (i : Int) = some (wordsF b) := by
  induction d with
  | zero =>
    intro k i h1 h2 h3
    obtain ⟨k, rfl⟩ : ∃ k', k = k' + 1 := ⟨k - 1, by omega⟩
    have hn : i = 16 := by omega
    subst hn
    have hc : ¬ (((16 : Nat) : Int) < 16) := by decide
    rw [PShaAdds.rillref01_words.l0, if_neg hc]
    exact words_l1 (first16 b 16) (first16_length b 16) 48 k 0 (by omega) (by omega) (by omega)
  | succ d ih =>
    intro k i h1 h2 h3
    obtain ⟨k, rfl⟩ : ∃ k', k = k' + 1 := ⟨k - 1, by omega⟩
    rw [words_step0 k b (first16 b i) _ hb (by omega) (by omega) (by rw [first16_length])]
    exact ih k (i + 1) (by omega) (by omega) (by omega)
theorem words_eq (b : List Int) (hb : b.length = 64) : PShaAdds.rillref01_words.f 100 b = some (wordsF b) := words_l0 b hb 16 100 0 (by omega) (by omega) (by omega)

/-! rows -/
theorem take_one (l : List Int) (i : Nat) (h : i < l.length) : l.take i ++ [rd l i] = l.take (i + 1) := by
  rw [List.take_succ_eq_append_getElem h]
  congr 2
  simp [rd, h]
theorem endA_length (n : Int) : ∀ k, (endA n k).length = k
  | 0 => rfl
  | k + 1 => by simp [endA, endA_length n k]
theorem padF_length (n : Nat) : (padF n).length = 9 + (119 - n % 64) % 64 := by simp [padF, endA_length]; omega
theorem rows_l2 (X : List Int) (n : Int) (hX : X.length < 140737488355320) (d : Nat) : ∀ (k j : Nat), j ≤ 8 → 8 - j = d → d < k →
    PShaAdds.rillref01_rows.l2 k (X ++ endA n j) (IntKind.u64.wrap (IntKind.u64.wrap n * 8)) (7 - (j : Int)) = some (X ++ endA n 8) := by
  induction d with
  | zero =>
    intro k j h1 h2 h3
    obtain ⟨k, rfl⟩ : ∃ k', k = k' + 1 := ⟨k - 1, by omega⟩
    have hn : j = 8 := by omega
    subst hn
    rw [PShaAdds.rillref01_rows.l2, if_neg (by omega)]
  | succ d ih =>
    intro k j h1 h2 h3
    obtain ⟨k, rfl⟩ : ∃ k', k = k' + 1 := ⟨k - 1, by omega⟩
    have hl : (X ++ endA n j).length < 140737488355328 := by rw [List.length_append, endA_length]; omega
    have e1 : wrap64 (8 * (7 - (j : Int))) = 8 * (7 - (j : Int)) := wrap64_in (by omega) (by omega)
    have e2 : IntKind.u64.wrap (8 * (7 - (j : Int))) = 8 * (7 - (j : Int)) := by simp [IntKind.wrap, IntKind.signed, IntKind.bits]; omega
    have e3 : wrap64 ((7 - (j : Int)) - 1) = 7 - ((j + 1 : Nat) : Int) := by rw [wrap64_in (by omega) (by omega)]; omega
    rw [PShaAdds.rillref01_rows.l2, if_pos (by omega), e1, e2, e3, if_pos (by omega), if_pos hl]
    have := ih k (j + 1) (by omega) (by omega) (by omega)
    rw [endA, ← List.append_assoc] at this
    exact this
theorem rows_l1 (l : List Int) (hl : l.length < 140737488355000) (d : Nat) : ∀ (k j : Nat), j ≤ (119 - l.length % 64) % 64 → (119 - l.length % 64) % 64 - j = d → d + 10 < k →
    PShaAdds.rillref01_rows.l1 k l (l ++ 128 :: List.replicate j 0) = some (rowsF l) := by
  induction d with
  | zero =>
    intro k j h1 h2 h3
    obtain ⟨k, rfl⟩ : ∃ k', k = k' + 1 := ⟨k - 1, by omega⟩
    have hj : j = (119 - l.length % 64) % 64 := by omega
    rw [PShaAdds.rillref01_rows.l1, if_pos (by simp only [List.length_append, List.length_cons, List.length_replicate]; omega)]
    have := rows_l2 (l ++ 128 :: List.replicate j 0) (l.length : Int) (by simp only [List.length_append, List.length_cons, List.length_replicate]; omega) 8 k 0 (by omega) (by omega) (by omega)
    rw [show endA (l.length : Int) 0 = [] from rfl, List.append_nil] at this
    rw [show (7 : Int) = 7 - ((0 : Nat) : Int) by omega, this]
    unfold rowsF padF
    rw [← hj]
    simp
  | succ d ih =>
    intro k j h1 h2 h3
    obtain ⟨k, rfl⟩ : ∃ k', k = k' + 1 := ⟨k - 1, by omega⟩
    rw [PShaAdds.rillref01_rows.l1, if_neg (by simp only [List.length_append, List.length_cons, List.length_replicate]; omega), if_pos (by simp only [List.length_append, List.length_cons, List.length_replicate]; omega)]
    have := ih k (j + 1) (by omega) (by omega) (by omega)
    rw [List.replicate_succ'] at this
    rw [List.append_assoc, List.cons_append]
    exact this
theorem rows_l0 (l : List Int) (hl : l.length < 140737488355000) (d : Nat) : ∀ (k i : Nat), i ≤ l.length → l.length - i = d → d + 100 < k →
    PShaAdds.rillref01_rows.l0 k l (l.take i) (i : Int) = some (rowsF l) := by
  induction d with
  | zero =>
    intro k i h1 h2 h3
    obtain ⟨k, rfl⟩ : ∃ k', k = k' + 1 := ⟨k - 1, by omega⟩
    have hi : i = l.length := by omega
    subst hi
    rw [PShaAdds.rillref01_rows.l0, if_neg (by omega), if_pos (by rw [List.take_length]; omega), List.take_length]
    exact rows_l1 l hl _ k 0 (by omega) rfl (by omega)
  | succ d ih =>
    intro k i h1 h2 h3
    obtain ⟨k, rfl⟩ : ∃ k', k = k' + 1 := ⟨k - 1, by omega⟩
    have e : wrap64 ((i : Int) + 1) = ((i + 1 : Nat) : Int) := by rw [wrap64_in (by omega) (by omega)]; omega
    rw [PShaAdds.rillref01_rows.l0, if_pos (by omega), if_pos (by omega), if_pos (by rw [List.length_take]; omega), e, take_one l i (by omega)]
    exact ih k (i + 1) (by omega) (by omega) (by omega)
theorem rows_eq (l : List Int) (hl : l.length < 140737488355000) : PShaAdds.rillref01_rows.f (l.length + 101) l = some (rowsF l) := rows_l0 l hl l.length (l.length + 101) 0 (by omega) (by omega) (by omega)

/-! blocks -/
theorem foldB_add : ∀ (m n : Nat) (s : S8) (l : List Int), foldB (m + n) s l = foldB n (foldB m s l) (l.drop (64 * m))
  | 0, n, s, l => by simp [foldB]
  | m + 1, n, s, l => by
    rw [show m + 1 + n = (m + n) + 1 by omega]
    simp only [foldB]
    rw [foldB_add m n, List.drop_drop, show 64 + 64 * m = 64 * (m + 1) by omega]
theorem foldB_app : ∀ (m : Nat) (s : S8) (x y : List Int), 64 * m ≤ x.length → foldB m s (x ++ y) = foldB m s x
  | 0, s, x, y, _ => rfl
  | m + 1, s, x, y, h => by
    simp only [foldB]
    rw [List.take_append_of_le_length (by omega), List.drop_append_of_le_length (by omega), foldB_app m _ _ _ (by rw [List.length_drop]; omega)]
theorem foldB_succ (m : Nat) (s : S8) (l : List Int) : foldB (m + 1) s l = takeF (foldB m s l) ((l.drop (64 * m)).take 64) := by
  rw [foldB_add m 1]
  rfl
/-- The digest out of a state behind whole rows, and what is left. -/
theorem sha_split (l : List Int) (m : Nat) (hm : m = l.length / 64) :
    shaF l = digest (foldB (((l.drop (64 * m)).length + (padF l.length).length) / 64) (foldB m s0 l) (l.drop (64 * m) ++ padF l.length)) := by
  unfold shaF rowsF
  have h1 : (l.length + (padF l.length).length) / 64 = m + ((l.drop (64 * m)).length + (padF l.length).length) / 64 := by
    rw [padF_length, List.length_drop]; omega
  rw [h1, foldB_add, foldB_app m _ _ _ (by omega), List.drop_append_of_le_length (by omega)]
theorem pad_same (n m : Nat) (h : m = n / 64) : (119 - n % 64) % 64 = (119 - (n - 64 * m) % 64) % 64 := by omega
end Go.Proofs.YtbnbncnmhhioeaaDoor.By
