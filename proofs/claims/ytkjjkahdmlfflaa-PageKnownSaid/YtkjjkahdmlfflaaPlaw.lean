/- Nodes: an argument's opener; what is read of any bytes has just these; what is cut off, or has more behind. -/
import Derived.Test.YtkjjkahdmlfflaaKnown13
import Derived.Test.YtkjjkahdmlfflaaArg
namespace Go.Proofs.Ytkjjkahdmlfflaa.Op
open Go Go.RowKit Go.ChangeShapes Go.WideShapes Go.Deep Go.Proofs.YtkjjkahdmlfflaaW.PrintWords Go.Proofs.Ytkjjkahdmlfflaa.By
section
variable {H : Type} {enc : TypeId × Value → H} {P : Program} {w : World} {base : Nat} {spare : Nat → Bool} {held : Bool} {t : TypeId}
theorem ok_one {α : Type} {a : Kd α} {g : α → Prop} {f0 : Field} (ht : P.underlying t = some (.struct #[f0]))
    (h0 : OpenK enc P w base spare held a g f0.type) (s0 : P.cellsOf f0.type = a.sz) (o0 : f0.offset = 0) (hc : P.cellsOf t = a.sz) : OpenK enc P w base spare held a g t := by
  intro fuel cs x h
  obtain ⟨xs, n, _, _, hl, hxl, hf⟩ := DataW.trod_struct ht h
  have hxl' : xs.length = 1 := hxl
  obtain ⟨y0, k0, g0⟩ := fld h0 s0 (by omega) (hf 0 f0 rfl)
  rw [o0] at k0
  exact ⟨y0, by have := last_at k0 (by omega); rwa [List.drop_zero] at this, g0⟩
end
section
variable {H : Type} {enc : TypeId × Value → H} {w : World} {base : Nat} {spare : Nat → Bool} {held : Bool}
abbrev kRef : Kd Rf := Kd.pair (Kd.int .i64) kSum
theorem rf_ok_of {x : Rf} (h : (Lit.int .i64 x.1).wf = true ∧ x.2.length = 32 ∧ isB x.2) : Rf.ok x :=
  ⟨bounds_i64 h.1, h.2.1, h.2.2⟩
theorem ok_page : OpenK enc Try.prog w base spare held (Kd.arr 8 kRef (by decide)) (fun xs => Pok xs) 58 :=
  ok_one Try.underlying58 (ok_weaken (ok_arr (by decide) Try.underlying56 (by kernel_rfl) (by kernel_rfl) ok_ref) (fun s h => ⟨h.1, fun r hr => rf_ok_of (h.2 r hr)⟩)) (by kernel_rfl) (by kernel_rfl) (by kernel_rfl)
theorem arr_flat : ∀ (xs : List Rf) (cs : List Value), cs.length = xs.length * 33 → (∀ j p, xs[j]? = some p → (cs.drop (j * 33)).take 33 = refC p.1 p.2) → cs = pageC xs
  | [], cs, hl, _ => by
    have : cs = [] := List.eq_nil_of_length_eq_zero (by simpa using hl)
    rw [this]; rfl
  | r :: xs, cs, hl, h => by
    have h0 := h 0 r rfl
    rw [Nat.zero_mul, List.drop_zero] at h0
    have ih := arr_flat xs (cs.drop 33) (by rw [List.length_drop, hl, List.length_cons]; omega) (fun j p hj => by
      have := h (j + 1) p (by simpa using hj)
      rw [List.drop_drop]
      rwa [show 33 + j * 33 = (j + 1) * 33 by omega])
    rw [← List.take_append_drop 33 cs, h0, ih]
    simp [pageC, List.flatMap_cons]
theorem open_page {r : Reach} {b0 : Nat} {v : Value} {x : DataW H} {p : List MemPlace} (hv : Value.okWide Try.prog w r b0 58 v) (h : DataW.Trod enc Try.prog w base spare held 58 v x p) :
    ∃ q, v = pageV q ∧ Pok q := by
  obtain ⟨cs, y, rfl, ⟨hl, hc, hK⟩, hg⟩ := open_st Try.underlying58 ok_page hv h
  refine ⟨y, ?_, hg⟩
  have := arr_flat y cs.toList (by rw [hc]; rfl) (fun j q hj => (ref_cells (hK j q hj)).1)
  unfold pageV
  rw [← this]
end
end Go.Proofs.Ytkjjkahdmlfflaa.Op
namespace Go.Proofs.Ytkjjkahdmlfflaa.By
open Go.RowKit Go.Proofs.Ytkjjkahdmlfflaa.Reg Go.Proofs.YtkjjkahdmlfflaaW.PrintWords Go.Proofs.YtkjjkahdmlfflaaW.PrintLast Go.Proofs.YtkjjkahdmlfflaaW.PrintMore
set_option linter.unusedVariables false

theorem be8_of8 : ∀ (xs : List Int), xs.length = 8 → isB xs → be8 (numI xs) = xs
  | [a, b, c, d, e, f, g, h], _, hb => be8_numI a b c d e f g h hb
theorem short_no {s : RS} {n : Nat} (h : ¬ s.short n = true) : s.2 = false ∧ n ≤ s.1.length := by
  constructor
  · cases hb : s.2 with
    | false => rfl
    | true => exact absurd ((short_spec s n).2 (.inl hb)) h
  · rcases Nat.lt_or_ge s.1.length n with hh | hh
    · exact absurd ((short_spec s n).2 (.inr hh)) h
    · exact hh
theorem tkInt_inv {s : RS} (hB : isB s.1) (h : (tkInt s).2.2 = false) : s.2 = false ∧ be8 (tkInt s).1 ++ (tkInt s).2.1 = s.1 := by
  by_cases hs : s.short 8 = true
  · unfold tkInt at h; rw [if_pos hs] at h; exact absurd h (fun h => by cases h)
  · obtain ⟨h2, hl⟩ := short_no hs
    refine ⟨h2, ?_⟩
    unfold tkInt
    rw [if_neg hs]
    show be8 (numI (s.1.take 8)) ++ s.1.drop 8 = s.1
    rw [be8_of8 _ (by rw [List.length_take]; omega) (hB.take 8), List.take_append_drop]
theorem tkRef_inv {s : RS} (hB : isB s.1) (h : (tkRef s).2.2 = false) : s.2 = false ∧ refB (tkRef s).1.1 (tkRef s).1.2 ++ (tkRef s).2.1 = s.1 := by
  by_cases hs : s.short 40 = true
  · unfold tkRef at h; rw [if_pos hs] at h; exact absurd h (fun h => by cases h)
  · obtain ⟨h2, hl⟩ := short_no hs
    refine ⟨h2, ?_⟩
    unfold tkRef
    rw [if_neg hs]
    show refB (numI (s.1.take 8)) ((s.1.take 40).drop 8) ++ s.1.drop 40 = s.1
    have : refB (numI (s.1.take 8)) ((s.1.take 40).drop 8) = s.1.take 40 := by
      unfold refB
      rw [be8_of8 _ (by rw [List.length_take]; omega) (hB.take 8)]
      conv => lhs; rw [show s.1.take 8 = (s.1.take 40).take 8 by rw [List.take_take]; rfl]
      rw [List.take_append_drop]
    rw [this, List.take_append_drop]
theorem refsB_append (p q : List Rf) : refsB (p ++ q) = refsB p ++ refsB q := by unfold refsB; rw [List.flatMap_append]
theorem refsB_one (r : Rf) : refsB [r] = refB r.1 r.2 := by unfold refsB; simp
theorem tkRefs_inv (n : Nat) (s : RS) (hB : isB s.1) (h : (tkRefs n s).2.2 = false) : s.2 = false ∧ refsB (tkRefs n s).1 ++ (tkRefs n s).2.1 = s.1 := by
  induction n with
  | zero => exact ⟨h, rfl⟩
  | succ n ih =>
    have hk := tkRefs_ok n s hB
    simp only [tkRefs] at h ⊢
    obtain ⟨h1, h2⟩ := tkRef_inv hk.2.2 h
    obtain ⟨h3, h4⟩ := ih h1
    refine ⟨h3, ?_⟩
    rw [refsB_append, refsB_one, List.append_assoc, h2, h4]
theorem endI_zero {xs : List Int} {b : Bool} (h : endI xs b = 0) : b = false ∧ xs = [] := by
  unfold endI at h
  cases b with
  | true => rw [if_pos rfl] at h; exact absurd h (by decide)
  | false =>
    rw [if_neg (by decide)] at h
    by_cases h0 : xs.length = 0
    · exact ⟨rfl, List.eq_nil_of_length_eq_zero h0⟩
    · rw [if_neg h0] at h; exact absurd h (by decide)
theorem put_get (bs : List Int) (hB : isB bs) (h : getE bs = 0) : nodeB (getN bs) (getP bs) = bs ∧ mayB (getN bs) (getP bs) = true := by
  have hN : getN bs = (tkInt (bs, false)).1 := by unfold getN; rw [if_pos h]
  have hP : getP bs = (tkRefs 8 (tkInt (bs, false)).2).1 := by unfold getP; rw [if_pos h]
  have he : endI (getI bs).1 (getI bs).2 = 0 := by
    rcases Decidable.em (endI (getI bs).1 (getI bs).2 = 0) with hh | hh
    · exact hh
    · unfold getE at h; rw [if_neg hh] at h; exact h
  have hm : mayB (getN bs) (getP bs) = true := by
    rw [hN, hP]
    unfold getE at h
    rw [if_pos he] at h
    rcases Bool.eq_false_or_eq_true (mayB (tkInt (bs, false)).1 (tkRefs 8 (tkInt (bs, false)).2).1) with hh | hh
    · exact hh
    · rw [if_neg (by rw [hh]; decide)] at h; exact absurd h (by decide)
  obtain ⟨h1, h2⟩ := endI_zero he
  unfold getI at h1 h2
  obtain ⟨k1, k2⟩ := tkRefs_inv 8 _ (tkInt_isB (s := (bs, false)) hB) h1
  obtain ⟨_, l2⟩ := tkInt_inv (s := (bs, false)) hB k1
  refine ⟨?_, hm⟩
  rw [hN, hP]
  unfold nodeB
  rw [h2, List.append_nil] at k2
  rw [k2, l2]
theorem get_no (bs : List Int) (h : ¬ getE bs = 0) : getN bs = 0 ∧ getP bs = zeroP := ⟨by unfold getN; rw [if_neg h], by unfold getP; rw [if_neg h]⟩
theorem node_len (i : Int) (p : List Rf) (hp : Pok p) : (nodeB i p).length = 328 := by
  unfold nodeB
  rw [List.length_append, be8_length, refsB_len p hp.2, hp.1]
theorem node_isB (i : Int) (p : List Rf) (hp : Pok p) : isB (nodeB i p) := by
  unfold nodeB
  refine (be8_isB i).app ?_
  intro x hx
  obtain ⟨r, hr, hx⟩ := List.mem_flatMap.1 hx
  exact ((be8_isB r.1).app (hp.2 r hr).2.2) x hx
theorem may_range {i : Int} {p : List Rf} (h : mayB i p = true) : 0 ≤ i ∧ i ≤ 8 := by
  unfold mayB at h
  simp only [Bool.and_eq_true, decide_eq_true_eq] at h
  exact h.2
theorem node_inj {i k : Int} {p q : List Rf} (hp : Pok p) (hq : Pok q) (hi : mayB i p = true) (hk : mayB k q = true) (h : nodeB i p = nodeB k q) : i = k ∧ p = q := by
  have h1 := may_range hi
  have h2 := may_range hk
  obtain ⟨_, a1, a2⟩ := get_put i p hp (by omega) (by omega) hi
  obtain ⟨_, b1, b2⟩ := get_put k q hq (by omega) (by omega) hk
  rw [h] at a1 a2
  exact ⟨a1.symm.trans b1, a2.symm.trans b2⟩
/-- A node with a byte behind. -/
theorem get_more (i : Int) (p : List Rf) (hp : Pok p) (hm : mayB i p = true) (x : Int) : getE (nodeB i p ++ [x]) = 3 := by
  have hr := may_range hm
  have e1 : tkInt (nodeB i p ++ [x], false) = (i, refsB p ++ [x], false) := by
    unfold nodeB
    rw [List.append_assoc]
    exact tkInt_put i _ (by omega) (by omega)
  have e2 : tkRefs 8 (refsB p ++ [x], false) = (p, [x], false) := by
    have := tkRefs_put p hp.2 [x] 8 (by rw [hp.1]; exact Nat.le_refl _)
    rw [List.take_of_length_le (by rw [hp.1]; exact Nat.le_refl _), List.drop_eq_nil_of_le (by rw [hp.1]; exact Nat.le_refl _)] at this
    exact this
  have e3 : getI (nodeB i p ++ [x]) = ([x], false) := by
    unfold getI; rw [e1]; simp only [e2]
  unfold getE
  rw [e3]
  rfl
/-- A node without its last byte. -/
theorem get_less (i : Int) (p : List Rf) (hp : Pok p) (hm : mayB i p = true) : getE ((nodeB i p).take 327) = 4 := by
  have hr := may_range hm
  have hl := refsB_len p hp.2
  rw [hp.1] at hl
  have e0 : (nodeB i p).take 327 = be8 i ++ (refsB p).take 319 := by
    unfold nodeB
    rw [List.take_append, be8_length, List.take_of_length_le (by rw [be8_length]; decide)]
  have e1 : tkInt ((nodeB i p).take 327, false) = (i, (refsB p).take 319, false) := by
    rw [e0]; exact tkInt_put i _ (by omega) (by omega)
  have h7 : 7 < p.length := by rw [hp.1]; decide
  have hd : p.drop 7 = [p[7]] := by
    rw [List.drop_eq_getElem_cons h7, List.drop_eq_nil_of_le (by rw [hp.1]; decide)]
  have e4 : refsB p = refsB (p.take 7) ++ refB p[7].1 p[7].2 := by
    conv => lhs; rw [← List.take_append_drop 7 p]
    rw [refsB_append, hd, refsB_one]
  have hl7 : (refsB (p.take 7)).length = 280 := by
    rw [refsB_len _ (fun r hr => hp.2 r (List.mem_of_mem_take hr)), List.length_take, hp.1]; rfl
  have e5 : (refsB p).take 319 = refsB (p.take 7) ++ (refB p[7].1 p[7].2).take 39 := by
    rw [e4, List.take_append, hl7, List.take_of_length_le (by rw [hl7]; decide)]
  have e6 : tkRefs 7 ((refsB p).take 319, false) = (p.take 7, (refB p[7].1 p[7].2).take 39, false) := by
    have := tkRefs_put (p.take 7) (fun r hr => hp.2 r (List.mem_of_mem_take hr)) ((refB p[7].1 p[7].2).take 39) 7 (by rw [List.length_take, hp.1]; decide)
    rw [List.drop_eq_nil_of_le (by rw [List.length_take, hp.1]; decide), List.take_take] at this
    rw [e5]
    exact this
  have e7 : (tkRefs 8 ((refsB p).take 319, false)).2.2 = true := by
    show (tkRef (tkRefs 7 ((refsB p).take 319, false)).2).2.2 = true
    rw [e6]
    unfold tkRef
    rw [if_pos ((short_spec _ 40).2 (.inr (by show ((refB p[7].1 p[7].2).take 39).length < 40; rw [List.length_take]; omega)))]
  have e8 : endI (getI ((nodeB i p).take 327)).1 (getI ((nodeB i p).take 327)).2 = 4 := by
    unfold getI
    rw [e1]
    simp only []
    unfold endI
    rw [if_pos e7]
  unfold getE
  rw [e8]
  rfl
end Go.Proofs.Ytkjjkahdmlfflaa.By
