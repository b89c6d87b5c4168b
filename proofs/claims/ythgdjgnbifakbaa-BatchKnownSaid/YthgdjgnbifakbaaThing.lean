/- What is put: things; their bytes; a thing in memory. -/
import Derived.Test.YthgdjgnbifakbaaEq
import Derived.Test.YthgdjgnbifakbaaArg
namespace Go.Proofs.Ythgdjgnbifakbaa.By
open Go.RowKit Go.Proofs.Ythgdjgnbifakbaa.Reg Go.Proofs.Ythgdjgnbifakbaa.Op Go.Proofs.YthgdjgnbifakbaaW.PrintWords Go.Proofs.YthgdjgnbifakbaaW.PrintLast Go.Proofs.YthgdjgnbifakbaaW.PrintMore
set_option linter.unusedVariables false

/-- A thing: its kind, its number, its ref. -/
abbrev Th := Int × Int × Int × List Int
abbrev kTh : Kd Th := Kd.pair (Kd.int .i64) (Kd.pair (Kd.int .i64) (Kd.pair (Kd.int .i64) kSum))
def thC (t : Th) : List Value := .int .i64 t.1 :: .int .i64 t.2.1 :: refC t.2.2.1 t.2.2.2
def Th.ok (t : Th) : Prop := (-9223372036854775808 ≤ t.1 ∧ t.1 ≤ 9223372036854775807) ∧ (-9223372036854775808 ≤ t.2.1 ∧ t.2.1 ≤ 9223372036854775807) ∧ (-9223372036854775808 ≤ t.2.2.1 ∧ t.2.2.1 ≤ 9223372036854775807) ∧ t.2.2.2.length = 32 ∧ isB t.2.2.2
theorem th_cells {w : World} {y : Th} {cs : List Value} (h : kTh.K w y cs) : cs = thC y ∧ y.2.2.2.length = 32 := by
  obtain ⟨c0, c1, rfl, h0, c2, c3, rfl, h1, h2⟩ := h
  have h0' : c0 = [.int .i64 y.1] := h0
  have h1' : c2 = [.int .i64 y.2.1] := h1
  obtain ⟨rfl, hl⟩ := ref_cells h2
  rw [h0', h1']
  exact ⟨rfl, hl⟩
theorem th_at {w : World} {A : Option Addr} {n : Nat} {L : List Th} (h : Kd.C kTh w A n L) (i : Nat) (hi : i < n) (t : Th) (ht : L[i]? = some t) : ∃ b off, A = some ⟨b, off, none⟩ ∧ w.rangeAt b (off + i * 35) (thC t) := by
  obtain ⟨ad, rfl, hc⟩ := h.2.2 (by omega)
  obtain ⟨cs, h1, h2, h3⟩ := hc i t ht
  obtain ⟨rfl, hl⟩ := th_cells h2
  have hs : ad.spot = none := by
    have hl0 : 0 < L.length := by rw [h.1]; omega
    obtain ⟨cs0, g1, g2, g3⟩ := hc 0 _ (List.getElem?_eq_getElem hl0)
    obtain ⟨rfl, _⟩ := th_cells g2
    have := g3 0 _ rfl
    rw [show 0 * kTh.sz + 0 = 0 from rfl] at this
    cases hsp : ad.spot with
    | none => rfl
    | some s =>
      exfalso
      simp only [Addr.add, World.cell?] at this
      simp [hsp] at this
      split at this <;> cases this
  obtain ⟨b, off, sp⟩ := ad
  subst hs
  refine ⟨b, off, rfl, fun j v hv => ?_⟩
  have := h3 j v hv
  rw [show kTh.sz = 35 from rfl] at this
  unfold Addr.add at this
  split at this
  · rename_i h0
    have e : off + i * 35 + j = off := by omega
    rw [e]
    exact this
  · rw [show off + i * 35 + j = off + (i * 35 + j) by omega]
    exact this
/-- A thing's bytes. -/
def thB (t : Th) : List Int := if pickT t.1 3 = 0 then be8 t.2.1 else if pickT t.1 3 = 1 then t.2.2.2 else refB t.2.2.1 t.2.2.2
theorem thB_isB {t : Th} (h : Th.ok t) : isB (thB t) := by
  unfold thB
  split
  · exact be8_isB _
  · split
    · exact h.2.2.2.2
    · exact (be8_isB _).app h.2.2.2.2
theorem thB_len {t : Th} (h : Th.ok t) : 8 ≤ (thB t).length ∧ (thB t).length ≤ 40 := by
  unfold thB
  split
  · rw [be8_length]; omega
  · split
    · rw [h.2.2.2.1]; omega
    · unfold refB; rw [List.length_append, be8_length, h.2.2.2.1]; omega
def allB (L : List Th) : List Int := L.flatMap thB
theorem allB_len : ∀ (L : List Th), (∀ t ∈ L, Th.ok t) → (allB L).length ≤ 40 * L.length
  | [], _ => by simp [allB]
  | t :: L, h => by
    have h1 := thB_len (h t (by simp))
    have h2 := allB_len L (fun x hx => h x (by simp [hx]))
    unfold allB at h2 ⊢
    rw [List.flatMap_cons, List.length_append, List.length_cons]
    omega
theorem allB_isB : ∀ (L : List Th), (∀ t ∈ L, Th.ok t) → isB (allB L)
  | [], _ => fun x hx => by simp [allB] at hx
  | t :: L, h => by
    unfold allB
    rw [List.flatMap_cons]
    exact (thB_isB (h t (by simp))).app (allB_isB L (fun x hx => h x (by simp [hx])))
theorem allB_take (L : List Th) (i : Nat) (t : Th) (h : L[i]? = some t) : allB (L.take (i + 1)) = allB (L.take i) ++ thB t := by
  obtain ⟨hi, rfl⟩ := List.getElem?_eq_some_iff.1 h
  unfold allB
  rw [List.take_succ_eq_append_getElem hi, List.flatMap_append]
  simp
theorem allB_drop (L : List Th) (i : Nat) (t : Th) (h : L[i]? = some t) : allB (L.drop i) = thB t ++ allB (L.drop (i + 1)) := by
  obtain ⟨hi, rfl⟩ := List.getElem?_eq_some_iff.1 h
  unfold allB
  rw [List.drop_eq_getElem_cons hi, List.flatMap_cons]
section
variable {H : Type} {enc : TypeId × Value → H} {w : World} {base : Nat} {spare : Nat → Bool} {held : Bool}
theorem ok_th : OpenK enc Try.prog w base spare held kTh Th.ok 53 :=
  ok_weaken (ok_pair3 Try.underlying53 (ok_int Try.underlying3) (ok_int Try.underlying3) ok_ref (by kernel_rfl) (by kernel_rfl) (by kernel_rfl) (by kernel_rfl) (by kernel_rfl) (by kernel_rfl) (by kernel_rfl))
    (fun t h => ⟨bounds_i64 h.1, bounds_i64 h.2.1, bounds_i64 h.2.2.1, h.2.2.2.1, h.2.2.2.2⟩)
end
end Go.Proofs.Ythgdjgnbifakbaa.By
