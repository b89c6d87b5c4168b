/- A number of eight bytes: what the program and the document read. -/
import Derived.Test.YthgdjgnbifakbaaRef
import Derived.Laws.BitsLemmas
namespace Go.Proofs.Ythgdjgnbifakbaa.By
open Go.RowKit Go.Proofs.Ythgdjgnbifakbaa.Reg Go.Proofs.YthgdjgnbifakbaaW.PrintWords Go.Proofs.YthgdjgnbifakbaaW.PrintLast Go.Proofs.YthgdjgnbifakbaaW.PrintMore
set_option linter.unusedVariables false

/-- All of them are bytes. -/
def isB (xs : List Int) : Prop := ∀ x ∈ xs, 0 ≤ x ∧ x < 256
theorem isB_rd {xs : List Int} (h : isB xs) (i : Int) : 0 ≤ rd xs i ∧ rd xs i < 256 := by
  unfold rd
  rw [List.getD_eq_getElem?_getD]
  cases e : xs[i.toNat]? with
  | none => exact ⟨by decide, by decide⟩
  | some x => exact h x (List.mem_of_getElem? e)
theorem isB.app {xs ys : List Int} (h : isB xs) (k : isB ys) : isB (xs ++ ys) := fun x hx => (List.mem_append.1 hx).elim (h x) (k x)
theorem isB.take {xs : List Int} (h : isB xs) (n : Nat) : isB (xs.take n) := fun x hx => h x (List.mem_of_mem_take hx)
theorem isB.drop {xs : List Int} (h : isB xs) (n : Nat) : isB (xs.drop n) := fun x hx => h x (List.mem_of_mem_drop hx)
def fold8 (u : Int) (xs : List Int) : Int := xs.foldl (fun u c => (u * 256 + c) % 18446744073709551616) u
/-- The number that bytes say. -/
def numI (xs : List Int) : Int := wrap64 (fold8 0 xs)

theorem fold8_range (xs : List Int) (u : Int) (h : 0 ≤ u ∧ u < 18446744073709551616) : 0 ≤ fold8 u xs ∧ fold8 u xs < 18446744073709551616 := by
  induction xs generalizing u with
  | nil => exact h
  | cons x xs ih => exact ih _ ⟨Int.emod_nonneg _ (by decide), Int.emod_lt_of_pos _ (by decide)⟩
theorem fold8_snoc (xs : List Int) (u x : Int) : fold8 u (xs ++ [x]) = (fold8 u xs * 256 + x) % 18446744073709551616 := by simp [fold8, List.foldl_append]

theorem or_step (u x : Int) (hx : 0 ≤ x ∧ x < 256) : Go.bits .or .u64 (IntKind.u64.wrap (u * 256)) (IntKind.u64.wrap x) = (u * 256 + x) % 18446744073709551616 := by
  have e1 : IntKind.u64.wrap (u * 256) = u * 256 % 18446744073709551616 := by rw [IntKind.wrap_u64]
  have e2 : IntKind.u64.wrap x = x := by rw [IntKind.wrap_u64]; omega
  rw [e1, e2, bits_join .u64 64 (by decide) (fun n h0 h1 => by rw [IntKind.wrap_u64]; omega) 8 _ _ (by omega) (by omega) (by omega) hx.1 hx.2 (by omega)]
  omega

theorem number_loop (xs : List Int) (hb : isB xs) (hm : xs.length ≤ 9223372036854775806) (d : Nat) : ∀ (k : Nat) (i : Int) (u : Int), u = fold8 0 (xs.take i.toNat) → 0 ≤ i → i ≤ xs.length → (xs.length : Int) - i = d → d < k →
    PPackPuts.pack_number.l0 k u xs (xs.length : Int) i = some (numI xs) := by
  induction d with
  | zero =>
    intro k i u hu h0 h1 h2 h3
    obtain ⟨k, rfl⟩ : ∃ k', k = k' + 1 := ⟨k - 1, by omega⟩
    simp only [PPackPuts.pack_number.l0]
    rw [if_neg (by omega), hu, List.take_of_length_le (by omega)]
    rfl
  | succ d ih =>
    intro k i u hu h0 h1 h2 h3
    obtain ⟨k, rfl⟩ : ∃ k', k = k' + 1 := ⟨k - 1, by omega⟩
    simp only [PPackPuts.pack_number.l0]
    rw [if_pos (by omega), if_pos h0, if_pos (by omega), or_step u _ (isB_rd hb i), wrap64_in (by omega) (by omega)]
    exact ih k (i + 1) _ (by rw [take_rd xs i h0 (by omega), fold8_snoc, hu]) (by omega) (by omega) (by omega) (by omega)
theorem number_calls (w : World) (A : Option Addr) (c n : Nat) (xs : List Int) (hn : n = xs.length) (hb : isB xs) (hr : Kd.C kb w A n xs) (hc : n ≤ c) (h : xs.length ≤ 9223372036854775806) :
    Calls Try.prog 61 #[.slice A n c] w fun e w' => e = .returned (.int .i64 (numI xs)) ∧ Ext w w' := by
  subst hn
  exact (PPackPuts.pack_number.calls (xs.length + 1) A c xs _ w hr hc (number_loop xs hb h xs.length _ 0 0 rfl (by omega) (by omega) (by omega) (by omega))).mono fun e w' h => ⟨h.1, h.2.below⟩

theorem be8_isB (v : Int) : isB (be8 v) := by
  intro x hx
  simp only [be8, List.mem_cons, List.not_mem_nil, or_false] at hx
  rcases hx with h | h | h | h | h | h | h | h <;> subst h <;> omega
theorem numI_be8 (v : Int) (h0 : -9223372036854775808 ≤ v) (h1 : v ≤ 9223372036854775807) : numI (be8 v) = v := by
  unfold numI fold8 be8
  simp only [List.foldl_cons, List.foldl_nil]
  rw [IntKind.wrap_u64]
  unfold wrap64
  omega
theorem be8_numI (a b c d e f g h : Int) (hb : isB [a, b, c, d, e, f, g, h]) : be8 (numI [a, b, c, d, e, f, g, h]) = [a, b, c, d, e, f, g, h] := by
  have ha := hb a (by simp)
  have hb' := hb b (by simp)
  have hc := hb c (by simp)
  have hd := hb d (by simp)
  have he := hb e (by simp)
  have hf := hb f (by simp)
  have hg := hb g (by simp)
  have hh := hb h (by simp)
  have hv : fold8 0 [a, b, c, d, e, f, g, h] = a * 72057594037927936 + b * 281474976710656 + c * 1099511627776 + d * 4294967296 + e * 16777216 + f * 65536 + g * 256 + h := by
    unfold fold8
    simp only [List.foldl_cons, List.foldl_nil]
    omega
  have hw : IntKind.u64.wrap (numI [a, b, c, d, e, f, g, h]) = a * 72057594037927936 + b * 281474976710656 + c * 1099511627776 + d * 4294967296 + e * 16777216 + f * 65536 + g * 256 + h := by
    rw [IntKind.wrap_u64]
    unfold numI wrap64
    rw [hv]
    omega
  unfold be8
  rw [hw]
  congr 1
  · omega
  congr 1
  · omega
  congr 1
  · omega
  congr 1
  · omega
  congr 1
  · omega
  congr 1
  · omega
  congr 1
  · omega
  congr 1
  omega
theorem numI_range (xs : List Int) : -9223372036854775808 ≤ numI xs ∧ numI xs ≤ 9223372036854775807 := by unfold numI wrap64; omega
end Go.Proofs.Ythgdjgnbifakbaa.By
