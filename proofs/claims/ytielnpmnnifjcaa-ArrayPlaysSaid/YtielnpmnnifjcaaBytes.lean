/- Lists of bytes: what the statements' own functions on them do (lent, the same, kept, copied, written over, picked). -/
import Derived.Test.YtielnpmnnifjcaaPArrayPlaysx1
import Derived.Test.YtielnpmnnifjcaaPSm
import Derived.Test.YtielnpmnnifjcaaAid
import Derived.Lib.Hide
import Derived.Outline
import Derived.Handy
namespace Go.Proofs.Ytielnpmnnifjcaa.By
open Go.RowKit Go.Proofs.Ytielnpmnnifjcaa.Reg Go.Proofs.YtielnpmnnifjcaaW.PrintWords Go.Proofs.YtielnpmnnifjcaaW.PrintLast Go.Proofs.YtielnpmnnifjcaaW.PrintMore
set_option linter.unusedVariables false

abbrev kb : Kd Int := Kd.int .u8
theorem wrap64_in {x : Int} (h0 : -9223372036854775808 ≤ x) (h1 : x ≤ 9223372036854775807) : wrap64 x = x := by unfold wrap64; omega
theorem at_k {k : IntKind} {w : World} {A : Option Addr} {n : Nat} {xs : List Int} (h : Kd.C (Kd.int k) w A n xs) (i : Int) (h0 : 0 ≤ i) (h1 : i < n) : ∃ ad, A = some ad ∧ w.cell? (ad.add i.toNat) = some (.int k (rd xs i)) := by
  obtain ⟨ad, c, e, _, hK, hc⟩ := Kd.C_get h 0 i h0 h1
  have hK' : c = [.int k (xs.getD i.toNat 0)] := hK
  subst hK'
  have h2 : w.cell? (ad.add (i.toNat * 1 + 0)) = some (.int k (xs.getD i.toNat 0)) := hc 0 _ rfl
  rw [Nat.mul_one, Nat.add_zero] at h2
  exact ⟨ad, e, h2⟩
theorem rd_at (l : List Int) (i : Int) (h0 : 0 ≤ i) (h1 : i < l.length) : l.drop i.toNat = rd l i :: l.drop (i + 1).toNat := by
  have h : i.toNat < l.length := by omega
  rw [List.drop_eq_getElem_cons h, show (i + 1).toNat = i.toNat + 1 by omega]
  unfold rd
  rw [List.getD_eq_getElem?_getD, List.getElem?_eq_getElem h]
  rfl

/-! the plain laws -/
theorem same_loop (x y : List Int) (hl : x.length = y.length) (hm : x.length ≤ 9223372036854775806) (d : Nat) : ∀ (k : Nat) (i : Int), 0 ≤ i → i ≤ x.length → (x.length : Int) - i = d → d < k →
    PArrayPlays.rillkit_SameBytes.l0 k x y i = some (decide (x.drop i.toNat = y.drop i.toNat)) := by
  induction d with
  | zero =>
    intro k i h0 h1 hd hk
    obtain ⟨k, rfl⟩ : ∃ m, k = m + 1 := ⟨k - 1, by omega⟩
    simp only [PArrayPlays.rillkit_SameBytes.l0]
    rw [if_neg (by omega), List.drop_of_length_le (by omega), List.drop_of_length_le (by omega)]
    simp
  | succ d ih =>
    intro k i h0 h1 hd hk
    obtain ⟨k, rfl⟩ : ∃ m, k = m + 1 := ⟨k - 1, by omega⟩
    simp only [PArrayPlays.rillkit_SameBytes.l0]
    rw [if_pos (by omega), if_pos h0, if_pos (by omega), rd_at x i h0 (by omega), rd_at y i h0 (by omega)]
    by_cases e : rd x i = rd y i
    · rw [if_pos e, wrap64_in (by omega) (by omega), ih k (i + 1) (by omega) (by omega) (by omega) (by omega), e]
      simp
    · rw [if_neg e]
      simp [e]
theorem same_eq (k : Nat) (x y : List Int) (hm : x.length ≤ 9223372036854775806) (hk : x.length < k) : PArrayPlays.rillkit_SameBytes.f k x y = some (decide (x = y)) := by
  unfold PArrayPlays.rillkit_SameBytes.f
  by_cases h : x.length = y.length
  · rw [if_pos (by omega), same_loop x y h hm x.length k 0 (by omega) (by omega) (by omega) hk]
    simp
  · rw [if_neg (by omega)]
    have : x ≠ y := fun e => h (by rw [e])
    simp [this]
def lent (l : List Int) : List Int := l ++ List.replicate 5 165
theorem lent_length (l : List Int) : (lent l).length = l.length + 5 := by simp [lent]
theorem lent_take (l : List Int) : (lent l).take l.length = l := by simp [lent]
theorem lent_mark (l : List Int) (i : Int) (h0 : l.length ≤ i) (h1 : i < l.length + 5) : rd (lent l) i = 165 := by
  unfold rd lent
  rw [List.getD_eq_getElem?_getD, List.getElem?_append_right (by omega), List.getElem?_replicate, if_pos (by omega)]
  rfl
theorem set_at (T : List Int) (i : Nat) (hi : i < T.length) (n : Nat) (v : Int) : (T.take i ++ List.replicate (n + 1) 0).set i v = T.take i ++ v :: List.replicate n 0 := by
  rw [List.set_append_right i v (by rw [List.length_take]; omega)]
  have : i - (T.take i).length = 0 := by rw [List.length_take]; omega
  rw [this, List.replicate_succ, List.set_cons_zero]
theorem lent_lo (l : List Int) (i : Nat) (h : i < (lent l).length) (hi : i < l.length) : (lent l)[i] = l[i] := List.getElem_append_left hi
theorem lent_hi (l : List Int) (i : Nat) (h : i < (lent l).length) (hi : l.length ≤ i) : (lent l)[i] = 165 := by
  have e : (l ++ List.replicate 5 165)[i]? = some (165 : Int) := by
    rw [List.getElem?_append_right hi, List.getElem?_replicate, if_pos (by rw [lent_length] at h; omega)]
  exact Option.some.inj ((List.getElem?_eq_getElem h).symm.trans e)
theorem lent_loop (l : List Int) (hm : l.length ≤ 9223372036854775801) (d : Nat) : ∀ (k : Nat) (i : Int), 0 ≤ i → i ≤ l.length + 5 → (l.length : Int) + 5 - i = d → d < k →
    PArrayPlays.rillkit_LentBytes.l0 k l ((lent l).take i.toNat ++ List.replicate d 0) i = some (lent l) := by
  induction d with
  | zero =>
    intro k i h0 h1 hd hk
    obtain ⟨k, rfl⟩ : ∃ m, k = m + 1 := ⟨k - 1, by omega⟩
    simp only [PArrayPlays.rillkit_LentBytes.l0, List.replicate_zero, List.append_nil]
    rw [List.take_of_length_le (by rw [lent_length]; omega), lent_length, if_neg (by omega)]
  | succ d ih =>
    intro k i h0 h1 hd hk
    obtain ⟨k, rfl⟩ : ∃ m, k = m + 1 := ⟨k - 1, by omega⟩
    have hil : i.toNat < (lent l).length := by rw [lent_length]; omega
    simp only [PArrayPlays.rillkit_LentBytes.l0]
    rw [List.length_append, List.length_take, lent_length, List.length_replicate, if_pos (by omega), if_pos h0, set_at _ _ hil]
    simp only [Option.bind_some]
    have hn : (i + 1).toNat = i.toNat + 1 := by omega
    have key := ih k (i + 1) (by omega) (by omega) (by omega) (by omega)
    rw [hn, List.take_succ_eq_append_getElem hil, List.append_assoc] at key
    by_cases hlt : i < (l.length : Int)
    · rw [if_pos hlt, wrap64_in (by omega) (by omega)]
      have e : (lent l)[i.toNat] = rd l i := by
        rw [lent_lo l i.toNat hil (by omega)]
        unfold rd
        rw [List.getD_eq_getElem?_getD, List.getElem?_eq_getElem (by omega)]
        rfl
      rw [e] at key
      rw [List.set_append_right _ _ (by rw [List.length_take]; omega)]
      have : i.toNat - ((lent l).take i.toNat).length = 0 := by rw [List.length_take]; omega
      rw [this, List.set_cons_zero]
      exact key
    · rw [if_neg hlt, wrap64_in (by omega) (by omega)]
      have e : (lent l)[i.toNat] = 165 := lent_hi l i.toNat hil (by omega)
      rw [e] at key
      exact key
theorem lent_eq (k : Nat) (l : List Int) (hm : l.length ≤ 281474976710651) (hk : l.length + 5 < k) : PArrayPlays.rillkit_LentBytes.f k l = some (lent l) := by
  unfold PArrayPlays.rillkit_LentBytes.f
  rw [wrap64_in (x := (l.length : Int) + 5) (by omega) (by omega), if_pos (by omega), if_pos (by omega)]
  have := lent_loop l (by omega) (l.length + 5) k 0 (by omega) (by omega) (by omega) hk
  rw [show ((l.length : Int) + 5).toNat = l.length + 5 by omega]
  simpa using this
theorem copy_loop (l : List Int) (hm : l.length < 140737488355328) (d : Nat) : ∀ (k : Nat) (i : Int), 0 ≤ i → i ≤ l.length → (l.length : Int) - i = d → d < k →
    PArrayPlays.rillkit_CopyBytes.l0 k l (l.take i.toNat) i = some l := by
  induction d with
  | zero =>
    intro k i h0 h1 hd hk
    obtain ⟨k, rfl⟩ : ∃ m, k = m + 1 := ⟨k - 1, by omega⟩
    simp only [PArrayPlays.rillkit_CopyBytes.l0]
    rw [if_neg (by omega), List.take_of_length_le (by omega)]
  | succ d ih =>
    intro k i h0 h1 hd hk
    obtain ⟨k, rfl⟩ : ∃ m, k = m + 1 := ⟨k - 1, by omega⟩
    simp only [PArrayPlays.rillkit_CopyBytes.l0]
    have hil : i.toNat < l.length := by omega
    rw [if_pos (by omega), if_pos h0, if_pos (by rw [List.length_take]; omega), wrap64_in (by omega) (by omega)]
    have key := ih k (i + 1) (by omega) (by omega) (by omega) (by omega)
    rw [show (i + 1).toNat = i.toNat + 1 by omega, List.take_succ_eq_append_getElem hil] at key
    have e : rd l i = l[i.toNat] := by
      unfold rd
      rw [List.getD_eq_getElem?_getD, List.getElem?_eq_getElem hil]
      rfl
    rw [e]
    exact key
theorem copy_eq (k : Nat) (l : List Int) (hm : l.length < 140737488355328) (hk : l.length < k) : PArrayPlays.rillkit_CopyBytes.f k l = some l := by
  unfold PArrayPlays.rillkit_CopyBytes.f
  have := copy_loop l hm l.length k 0 (by omega) (by omega) (by omega) hk
  simpa using this
theorem spoil_loop (d : Nat) : ∀ (k : Nat) (l : List Int) (i : Int), l.length ≤ 9223372036854775806 → 0 ≤ i → i ≤ l.length → (l.length : Int) - i = d → d < k → ∃ r, PArrayPlays.rillkit_SpoilBytes.l0 k l i = some r := by
  induction d with
  | zero =>
    intro k l i hm h0 h1 hd hk
    obtain ⟨k, rfl⟩ : ∃ m, k = m + 1 := ⟨k - 1, by omega⟩
    exact ⟨l, by simp only [PArrayPlays.rillkit_SpoilBytes.l0]; rw [if_neg (by omega)]⟩
  | succ d ih =>
    intro k l i hm h0 h1 hd hk
    obtain ⟨k, rfl⟩ : ∃ m, k = m + 1 := ⟨k - 1, by omega⟩
    obtain ⟨r, hr⟩ := ih k (l.set (i : Int).toNat (Go.bits .xor .u8 (rd l i) 90)) (i + 1) (by simpa using hm) (by omega) (by simp; omega) (by simp; omega) (by omega)
    exact ⟨r, by simp only [PArrayPlays.rillkit_SpoilBytes.l0]; rw [if_pos (by omega), if_pos h0, wrap64_in (by omega) (by omega)]; exact hr⟩
def pickT (k n : Int) : Int := if n < 1 then 0 else k % n
theorem pick_eq (k n : Int) (h0 : -9223372036854775808 ≤ k) (h1 : k ≤ 9223372036854775807) (h3 : n ≤ 9223372036854775807) : PArrayPlays.rillkit_Pick.f k n = some (pickT k n) := by
  unfold PArrayPlays.rillkit_Pick.f pickT
  by_cases h : n < 1
  · rw [if_pos h, if_pos h]
  · rw [if_neg h, if_neg h, if_neg (by omega)]
    have e := Int.tmod_eq_emod (a := k) (b := n)
    by_cases g : 0 ≤ k ∨ n ∣ k
    · rw [if_pos g] at e
      have p := Int.emod_nonneg k (show n ≠ 0 by omega)
      rw [e, if_neg (by omega)]
      simp
    · rw [if_neg g] at e
      have p := Int.emod_nonneg k (show n ≠ 0 by omega)
      have q := Int.emod_lt_of_pos k (show 0 < n by omega)
      have en : (n.natAbs : Int) = n := by omega
      rw [e, en, if_pos (by omega), wrap64_in (by omega) (by omega)]
      congr 1; omega
theorem pickT_range (k n : Int) (h : 1 ≤ n) : 0 ≤ pickT k n ∧ pickT k n < n := by
  unfold pickT
  rw [if_neg (by omega)]
  exact ⟨Int.emod_nonneg k (by omega), Int.emod_lt_of_pos k (by omega)⟩
end Go.Proofs.Ytielnpmnnifjcaa.By
