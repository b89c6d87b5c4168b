/- The two readers side by side: whatever is asked for, both answer alike. -/
import Derived.Test.YtkjjkahdmlfflaaEq
namespace Go.Proofs.Ytkjjkahdmlfflaa.By
open Go.RowKit Go.Proofs.Ytkjjkahdmlfflaa.Reg Go.Proofs.YtkjjkahdmlfflaaW.PrintWords Go.Proofs.YtkjjkahdmlfflaaW.PrintLast Go.Proofs.YtkjjkahdmlfflaaW.PrintMore
set_option linter.unusedVariables false

section
variable {w w' : World} {lo hi b : Nat} {S : Nat → Prop}
theorem Blk.kept {cs : Array Value} {t : TypeId} (h : Blk w b cs t) (hk : Kept w w' S) (hn : ¬ S b) : Blk w' b cs t := ⟨(hk.2 b h.lt hn).trans h.is⟩
theorem Rd.kept {xs : List Int} {bad : Bool} (h : Rd w lo hi b xs bad) (hk : Kept w w' S) (hs : ∀ k, S k → k < lo) : Rd w' lo hi b xs bad := by
  obtain ⟨A, c, h⟩ := h
  exact ⟨A, c, ⟨h.low, h.high, Nat.le_trans h.size hk.1, Blk.kept h.blk hk (fun e => by have := hs b e; have := h.low; omega),
    kb_stays h.row (fun a ha => hk.2 _ (by have := (h.far a ha).2.1; have := h.size; omega) (fun e => by have := hs _ e; have := h.far a ha; omega)), h.cap, h.far⟩⟩
theorem Rr.kept {bs : List Int} {p : Int} {bad : Bool} (h : Rr w lo hi b bs p bad) (hk : Kept w w' S) (hs : ∀ k, S k → k < lo) : Rr w' lo hi b bs p bad := by
  obtain ⟨A, c, h⟩ := h
  exact ⟨A, c, ⟨h.low, h.high, Nat.le_trans h.size hk.1, Blk.kept h.blk hk (fun e => by have := hs b e; have := h.low; omega),
    kb_stays h.row (fun a ha => hk.2 _ (by have := (h.far a ha).2.1; have := h.size; omega) (fun e => by have := hs _ e; have := h.far a ha; omega)), h.cap, h.far⟩⟩
end

/-- Both readers have read p bytes of bs, and are bad or not. -/
structure St (W w : World) (lo hi b lo2 hi2 b2 : Nat) (bs : List Int) (p : Int) (bad : Bool) : Prop where
  p0 : 0 ≤ p
  p1 : p ≤ bs.length
  rd : Rd w lo hi b (bs.drop p.toNat) bad
  rr : Rr w lo2 hi2 b2 bs p bad
  apart : hi ≤ lo2
  base : W.heap.size ≤ lo
  ext : Ext W w
  base2 : lo ≤ hi
theorem St.more {W w w' : World} {lo hi b lo2 hi2 b2 : Nat} {bs : List Int} {p : Int} {bad : Bool} (h : St W w lo hi b lo2 hi2 b2 bs p bad) (he : Ext w w') : St W w' lo hi b lo2 hi2 b2 bs p bad :=
  ⟨h.p0, h.p1, h.rd.ext he, h.rr.ext he, h.apart, h.base, h.ext.trans he, h.base2⟩

section
variable {W w : World} {lo hi b lo2 hi2 b2 : Nat} {bs : List Int} {p : Int} {bad : Bool}
theorem both_of (n : Nat) (hn : 0 < n) (f g : FuncId) (hB : isB bs) (h : St W w lo hi b lo2 hi2 b2 bs p bad) (zero : Value) (val : List Int → Value)
    (hz : ∀ (w : World) (lo hi b : Nat) (xs : List Int) (bad : Bool), Rd w lo hi b xs bad → (bad = true ∨ xs.length < n) → Calls Try.prog f #[.pointer (some ⟨b, 0, none⟩)] w fun e w' => e = .returned zero ∧ Rd w' lo hi b xs true ∧ Tch w w' lo hi)
    (hv : ∀ (w : World) (lo hi b : Nat) (xs : List Int), Rd w lo hi b xs false → isB xs → n ≤ xs.length → Calls Try.prog f #[.pointer (some ⟨b, 0, none⟩)] w fun e w' => e = .returned (val xs) ∧ Rd w' lo hi b (xs.drop n) false ∧ Tch w w' lo hi)
    (kz : ∀ (w : World) (lo hi b : Nat) (bs : List Int) (p : Int) (bad : Bool), Rr w lo hi b bs p bad → 0 ≤ p → p ≤ bs.length → (bad = true ∨ (bs.length : Int) - p < n) → Calls Try.prog g #[.pointer (some ⟨b, 0, none⟩)] w fun e w' => e = .returned zero ∧ Rr w' lo hi b bs p true ∧ Tch w w' lo hi)
    (kv : ∀ (w : World) (lo hi b : Nat) (bs : List Int) (p : Int), Rr w lo hi b bs p false → 0 ≤ p → isB bs → p + n ≤ bs.length → Calls Try.prog g #[.pointer (some ⟨b, 0, none⟩)] w fun e w' => e = .returned (val (bs.drop p.toNat)) ∧ Rr w' lo hi b bs (p + n) false ∧ Tch w w' lo hi) :
    ∃ r, (r = zero ∨ ∃ q : Nat, q + n ≤ bs.length ∧ r = val (bs.drop q)) ∧ Calls Try.prog f #[.pointer (some ⟨b, 0, none⟩)] w fun e w1 => e = .returned r ∧ Calls Try.prog g #[.pointer (some ⟨b2, 0, none⟩)] w1 fun e w2 => e = .returned r ∧ ∃ p' bad', St W w2 lo hi b lo2 hi2 b2 bs p' bad' := by
  have hp0 := h.p0
  have hp1 := h.p1
  have hlen : (bs.drop p.toNat).length = bs.length - p.toNat := List.length_drop
  by_cases hc : bad = true ∨ (bs.drop p.toNat).length < n
  · refine ⟨zero, .inl rfl, (hz w lo hi b _ bad h.rd hc).mono ?_⟩
    rintro e w1 ⟨rfl, h1, ht1⟩
    refine ⟨rfl, (kz w1 lo2 hi2 b2 bs p bad (h.rr.tch ht1 (.inr h.apart)) hp0 hp1 (hc.imp id (fun h => by omega))).mono ?_⟩
    rintro e w2 ⟨rfl, h2, ht2⟩
    exact ⟨rfl, p, true, hp0, hp1, h1.tch ht2 (.inl h.apart), h2, h.apart, h.base, ht2.ext (ht1.ext h.ext h.base) (by have := h.base; have := h.apart; have := h.base2; omega), h.base2⟩
  · have hb : bad = false := by cases bad <;> simp_all
    have hl : n ≤ (bs.drop p.toNat).length := by
      rcases Nat.lt_or_ge (bs.drop p.toNat).length n with hh | hh
      · exact absurd (.inr hh) hc
      · exact hh
    subst hb
    refine ⟨val (bs.drop p.toNat), .inr ⟨p.toNat, by omega, rfl⟩, (hv w lo hi b _ h.rd (hB.drop _) hl).mono ?_⟩
    rintro e w1 ⟨rfl, h1, ht1⟩
    refine ⟨rfl, (kv w1 lo2 hi2 b2 bs p (h.rr.tch ht1 (.inr h.apart)) hp0 hB (by omega)).mono ?_⟩
    rintro e w2 ⟨rfl, h2, ht2⟩
    refine ⟨rfl, p + n, false, by omega, by omega, ?_, h2, h.apart, h.base, ht2.ext (ht1.ext h.ext h.base) (by have := h.base; have := h.apart; have := h.base2; omega), h.base2⟩
    have := h1.tch ht2 (.inl h.apart)
    rw [List.drop_drop] at this
    rwa [show (p + (n : Int)).toNat = p.toNat + n by omega]
theorem both_byte (hB : isB bs) (h : St W w lo hi b lo2 hi2 b2 bs p bad) :
    ∃ r, Calls Try.prog 31 #[.pointer (some ⟨b, 0, none⟩)] w fun e w1 => e = .returned (.int .u8 r) ∧ Calls Try.prog 36 #[.pointer (some ⟨b2, 0, none⟩)] w1 fun e w2 => e = .returned (.int .u8 r) ∧ ∃ p' bad', St W w2 lo hi b lo2 hi2 b2 bs p' bad' := by
  obtain ⟨r, hr, H⟩ := both_of 1 (by decide) 31 36 hB h (.int .u8 0) (fun xs => .int .u8 (rd xs 0)) rdbyte_bad rdbyte_ok rbyte_bad
    (fun w lo hi b bs p h h0 hB h1 => by
      have := rbyte_ok w lo hi b bs p h h0 h1
      rwa [show rd bs p = rd (bs.drop p.toNat) 0 by rw [rd_at bs p h0 (by omega)]; rfl] at this)
  rcases hr with rfl | ⟨q, _, rfl⟩
  · exact ⟨_, H⟩
  · exact ⟨_, H⟩
theorem both_int (hB : isB bs) (h : St W w lo hi b lo2 hi2 b2 bs p bad) :
    ∃ r, Calls Try.prog 27 #[.pointer (some ⟨b, 0, none⟩)] w fun e w1 => e = .returned (.int .i64 r) ∧ Calls Try.prog 37 #[.pointer (some ⟨b2, 0, none⟩)] w1 fun e w2 => e = .returned (.int .i64 r) ∧ ∃ p' bad', St W w2 lo hi b lo2 hi2 b2 bs p' bad' := by
  obtain ⟨r, hr, H⟩ := both_of 8 (by decide) 27 37 hB h (.int .i64 0) (fun xs => .int .i64 (numI (xs.take 8))) rdint_bad rdint_ok rint_bad
    (fun w lo hi b bs p h h0 hB h1 => rint_ok w lo hi b bs p h h0 hB h1)
  rcases hr with rfl | ⟨q, _, rfl⟩
  · exact ⟨_, H⟩
  · exact ⟨_, H⟩
theorem both_sum (hB : isB bs) (h : St W w lo hi b lo2 hi2 b2 bs p bad) :
    ∃ s, s.length = 32 ∧ isB s ∧ Calls Try.prog 28 #[.pointer (some ⟨b, 0, none⟩)] w fun e w1 => e = .returned (sumV s) ∧ Calls Try.prog 38 #[.pointer (some ⟨b2, 0, none⟩)] w1 fun e w2 => e = .returned (sumV s) ∧ ∃ p' bad', St W w2 lo hi b lo2 hi2 b2 bs p' bad' := by
  obtain ⟨r, hr, H⟩ := both_of 32 (by decide) 28 38 hB h (sumV zero32) (fun xs => sumV (xs.take 32)) rdsum_bad rdsum_ok rsumr_bad
    (fun w lo hi b bs p h h0 hB h1 => rsumr_ok w lo hi b bs p h h0 h1)
  rcases hr with rfl | ⟨q, hq, rfl⟩
  · exact ⟨_, rfl, zero32_isB, H⟩
  · exact ⟨_, by rw [List.length_take, List.length_drop]; omega, (hB.drop _).take _, H⟩
theorem both_ref (hB : isB bs) (h : St W w lo hi b lo2 hi2 b2 bs p bad) :
    ∃ a s, (Lit.int .i64 a).wf = true ∧ s.length = 32 ∧ isB s ∧ Calls Try.prog 29 #[.pointer (some ⟨b, 0, none⟩)] w fun e w1 => e = .returned (refV a s) ∧ Calls Try.prog 39 #[.pointer (some ⟨b2, 0, none⟩)] w1 fun e w2 => e = .returned (refV a s) ∧ ∃ p' bad', St W w2 lo hi b lo2 hi2 b2 bs p' bad' := by
  obtain ⟨r, hr, H⟩ := both_of 40 (by decide) 29 39 hB h (refV 0 zero32) (fun xs => refV (numI (xs.take 8)) ((xs.take 40).drop 8)) rdref_bad rdref_ok rrefr_bad
    (fun w lo hi b bs p h h0 hB h1 => by
      have := rrefr_ok w lo hi b bs p h h0 hB h1
      rwa [show (bs.drop (p + 8).toNat).take 32 = ((bs.drop p.toNat).take 40).drop 8 by rw [List.drop_take, List.drop_drop, show (p + 8).toNat = p.toNat + 8 by omega]] at this)
  have hwf : ∀ x : Int, -9223372036854775808 ≤ x ∧ x ≤ 9223372036854775807 → (Lit.int .i64 x).wf = true := by
    intro x hx
    simp [Lit.wf, IntKind.min, IntKind.max, IntKind.signed, IntKind.bits]
    omega
  rcases hr with rfl | ⟨q, hq, rfl⟩
  · exact ⟨_, _, rfl, rfl, zero32_isB, H⟩
  · exact ⟨_, _, hwf _ (numI_range _), by rw [List.length_drop, List.length_take, List.length_drop]; omega, ((hB.drop _).take _).drop _, H⟩
end
end Go.Proofs.Ytkjjkahdmlfflaa.By
