/- What Get reads, as plain functions; the readers' contracts in these words. -/
import Derived.Test.YtkjjkahdmlfflaaEmpty
namespace Go.Proofs.Ytkjjkahdmlfflaa.By
open Go.RowKit Go.Proofs.Ytkjjkahdmlfflaa.Reg Go.Proofs.YtkjjkahdmlfflaaW.PrintWords Go.Proofs.YtkjjkahdmlfflaaW.PrintLast Go.Proofs.YtkjjkahdmlfflaaW.PrintMore
set_option linter.unusedVariables false

/-- A reader's state: what is left, and whether it is bad. -/
abbrev RS := List Int × Bool
def RS.short (s : RS) (n : Nat) : Bool := s.2 || decide (s.1.length < n)
def tkInt (s : RS) : Int × RS := if s.short 8 = true then (0, s.1, true) else (numI (s.1.take 8), s.1.drop 8, false)
def tkRef (s : RS) : Rf × RS := if s.short 40 = true then (zeroR, s.1, true) else ((numI (s.1.take 8), (s.1.take 40).drop 8), s.1.drop 40, false)
def tkRefs : Nat → RS → List Rf × RS
  | 0, s => ([], s)
  | n + 1, s => ((tkRefs n s).1 ++ [(tkRef (tkRefs n s).2).1], (tkRef (tkRefs n s).2).2)
theorem short_spec (s : RS) (n : Nat) : s.short n = true ↔ s.2 = true ∨ s.1.length < n := by simp [RS.short]
theorem tkRef_ok {s : RS} (h : isB s.1) : Rf.ok (tkRef s).1 ∧ isB (tkRef s).2.1 := by
  unfold tkRef
  split
  · exact ⟨zeroR_ok, h⟩
  · rename_i hn
    have hl : 40 ≤ s.1.length := by
      rcases Nat.lt_or_ge s.1.length 40 with hh | hh
      · exact absurd ((short_spec s 40).2 (.inr hh)) hn
      · exact hh
    exact ⟨⟨numI_range _, by show ((s.1.take 40).drop 8).length = 32; rw [List.length_drop, List.length_take]; omega, (h.take 40).drop 8⟩, h.drop 40⟩
theorem tkInt_isB {s : RS} (h : isB s.1) : isB (tkInt s).2.1 := by
  unfold tkInt
  split
  · exact h
  · exact h.drop 8
theorem tkRefs_ok (n : Nat) (s : RS) (h : isB s.1) : (tkRefs n s).1.length = n ∧ (∀ r ∈ (tkRefs n s).1, Rf.ok r) ∧ isB (tkRefs n s).2.1 := by
  induction n with
  | zero => exact ⟨rfl, (fun r hr => by simp [tkRefs] at hr), h⟩
  | succ n ih =>
    obtain ⟨h1, h2, h3⟩ := ih
    obtain ⟨k1, k2⟩ := tkRef_ok h3
    refine ⟨by simp [tkRefs, h1], fun r hr => ?_, k2⟩
    simp only [tkRefs, List.mem_append, List.mem_singleton] at hr
    rcases hr with hr | rfl
    · exact h2 r hr
    · exact k1

section
variable (w : World) (lo hi b : Nat) (s : RS)
theorem tkint_calls (h : Rd w lo hi b s.1 s.2) (hB : isB s.1) : Calls Try.prog 27 #[.pointer (some ⟨b, 0, none⟩)] w fun e w' => e = .returned (.int .i64 (tkInt s).1) ∧ Rd w' lo hi b (tkInt s).2.1 (tkInt s).2.2 ∧ Tch w w' lo hi := by
  by_cases hs : s.short 8 = true
  · have e : tkInt s = (0, s.1, true) := by unfold tkInt; rw [if_pos hs]
    rw [e]
    exact rdint_bad w lo hi b s.1 s.2 h ((short_spec s 8).1 hs)
  · have e : tkInt s = (numI (s.1.take 8), s.1.drop 8, false) := by unfold tkInt; rw [if_neg hs]
    rw [e]
    have h2 : s.2 = false := by cases hb : s.2 with | false => rfl | true => exact absurd ((short_spec s 8).2 (.inl hb)) hs
    rw [h2] at h
    exact rdint_ok w lo hi b s.1 h hB (by rcases Nat.lt_or_ge s.1.length 8 with hh | hh; exact absurd ((short_spec s 8).2 (.inr hh)) hs; exact hh)
theorem tkref_calls (h : Rd w lo hi b s.1 s.2) (hB : isB s.1) : Calls Try.prog 29 #[.pointer (some ⟨b, 0, none⟩)] w fun e w' => e = .returned (refV (tkRef s).1.1 (tkRef s).1.2) ∧ Rd w' lo hi b (tkRef s).2.1 (tkRef s).2.2 ∧ Tch w w' lo hi := by
  by_cases hs : s.short 40 = true
  · have e : tkRef s = (zeroR, s.1, true) := by unfold tkRef; rw [if_pos hs]
    rw [e]
    exact rdref_bad w lo hi b s.1 s.2 h ((short_spec s 40).1 hs)
  · have e : tkRef s = ((numI (s.1.take 8), (s.1.take 40).drop 8), s.1.drop 40, false) := by unfold tkRef; rw [if_neg hs]
    rw [e]
    have h2 : s.2 = false := by cases hb : s.2 with | false => rfl | true => exact absurd ((short_spec s 40).2 (.inl hb)) hs
    rw [h2] at h
    exact rdref_ok w lo hi b s.1 h hB (by rcases Nat.lt_or_ge s.1.length 40 with hh | hh; exact absurd ((short_spec s 40).2 (.inr hh)) hs; exact hh)
/-- The document's reader in the same words. -/
def Rq (w : World) (lo hi b : Nat) (bs : List Int) (s : RS) : Prop := ∃ p : Int, 0 ≤ p ∧ p ≤ bs.length ∧ s.1 = bs.drop p.toNat ∧ Rr w lo hi b bs p s.2
theorem rtkint_calls (bs : List Int) (h : Rq w lo hi b bs s) (hB : isB bs) : Calls Try.prog 37 #[.pointer (some ⟨b, 0, none⟩)] w fun e w' => e = .returned (.int .i64 (tkInt s).1) ∧ Rq w' lo hi b bs (tkInt s).2 ∧ Tch w w' lo hi := by
  obtain ⟨p, h0, h1, h2, h3⟩ := h
  have hlen : s.1.length = bs.length - p.toNat := by rw [h2, List.length_drop]
  by_cases hs : s.short 8 = true
  · have e : tkInt s = (0, s.1, true) := by unfold tkInt; rw [if_pos hs]
    rw [e]
    exact (rint_bad w lo hi b bs p s.2 h3 h0 h1 (((short_spec s 8).1 hs).imp id (fun h => by omega))).mono fun e w' h => ⟨h.1, ⟨p, h0, h1, h2, h.2.1⟩, h.2.2⟩
  · have e : tkInt s = (numI (s.1.take 8), s.1.drop 8, false) := by unfold tkInt; rw [if_neg hs]
    rw [e]
    have hb : s.2 = false := by cases hb : s.2 with | false => rfl | true => exact absurd ((short_spec s 8).2 (.inl hb)) hs
    rw [hb] at h3
    have hl : 8 ≤ s.1.length := by rcases Nat.lt_or_ge s.1.length 8 with hh | hh; exact absurd ((short_spec s 8).2 (.inr hh)) hs; exact hh
    refine (rint_ok w lo hi b bs p h3 h0 hB (by omega)).mono fun e w' h => ⟨by rw [h.1, h2], ⟨p + 8, by omega, by omega, ?_, h.2.1⟩, h.2.2⟩
    show s.1.drop 8 = _
    rw [h2, List.drop_drop, show (p + 8).toNat = p.toNat + 8 by omega]
theorem rtkref_calls (bs : List Int) (h : Rq w lo hi b bs s) (hB : isB bs) : Calls Try.prog 39 #[.pointer (some ⟨b, 0, none⟩)] w fun e w' => e = .returned (refV (tkRef s).1.1 (tkRef s).1.2) ∧ Rq w' lo hi b bs (tkRef s).2 ∧ Tch w w' lo hi := by
  obtain ⟨p, h0, h1, h2, h3⟩ := h
  have hlen : s.1.length = bs.length - p.toNat := by rw [h2, List.length_drop]
  by_cases hs : s.short 40 = true
  · have e : tkRef s = (zeroR, s.1, true) := by unfold tkRef; rw [if_pos hs]
    rw [e]
    exact (rrefr_bad w lo hi b bs p s.2 h3 h0 h1 (((short_spec s 40).1 hs).imp id (fun h => by omega))).mono fun e w' h => ⟨h.1, ⟨p, h0, h1, h2, h.2.1⟩, h.2.2⟩
  · have e : tkRef s = ((numI (s.1.take 8), (s.1.take 40).drop 8), s.1.drop 40, false) := by unfold tkRef; rw [if_neg hs]
    rw [e]
    have hb : s.2 = false := by cases hb : s.2 with | false => rfl | true => exact absurd ((short_spec s 40).2 (.inl hb)) hs
    rw [hb] at h3
    have hl : 40 ≤ s.1.length := by rcases Nat.lt_or_ge s.1.length 40 with hh | hh; exact absurd ((short_spec s 40).2 (.inr hh)) hs; exact hh
    refine (rrefr_ok w lo hi b bs p h3 h0 hB (by omega)).mono fun e w' h => ⟨?_, ⟨p + 40, by omega, by omega, ?_, h.2.1⟩, h.2.2⟩
    · rw [h.1, h2, show (bs.drop (p + 8).toNat).take 32 = ((bs.drop p.toNat).take 40).drop 8 by rw [List.drop_take, List.drop_drop, show (p + 8).toNat = p.toNat + 8 by omega]]
    · show s.1.drop 40 = _
      rw [h2, List.drop_drop, show (p + 40).toNat = p.toNat + 40 by omega]
end
end Go.Proofs.Ytkjjkahdmlfflaa.By
