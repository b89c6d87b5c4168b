/- Opening an argument: what reads as data of a type holds a Lean value of a kind. No Go program in sight. -/
import Derived.Test.YtielnpmnnifjcaaWWords
import Derived.OpenShut
import Derived.Deep.Slices
import Derived.ProofKit
namespace Go.Proofs.Ytielnpmnnifjcaa.Op
open Go Go.RowKit Go.ChangeShapes Go.WideShapes Go.Deep Go.Proofs.YtielnpmnnifjcaaW.PrintWords

section
variable {H : Type} {enc : TypeId × Value → H} {P : Program} {w : World} {base : Nat} {spare : Nat → Bool} {held : Bool} {t : TypeId}

/-- Whatever reads as data of type t has a Lean value of kind d, for which g holds. -/
def OpenK {α : Type} (enc : TypeId × Value → H) (P : Program) (w : World) (base : Nat) (spare : Nat → Bool) (held : Bool) (d : Kd α) (g : α → Prop) (t : TypeId) : Prop :=
  ∀ (fuel : Nat) (cs : List Value) (x : DataW H × List MemPlace), DataW.trod enc P w base spare held fuel t cs = some x → ∃ y, d.K w y cs ∧ g y

theorem ok_int {k : IntKind} (ht : P.underlying t = some (.int k)) : OpenK enc P w base spare held (Kd.int k) (fun n => (Lit.int k n).wf = true) t := by
  intro fuel cs x h
  obtain ⟨n, rfl, _, hw⟩ := DataW.trod_int ht h
  exact ⟨n, rfl, hw⟩
theorem ok_bool (ht : P.underlying t = some .bool) : OpenK enc P w base spare held Kd.bool (fun _ => True) t := by
  intro fuel cs x h
  obtain ⟨b, rfl, _⟩ := DataW.trod_bool ht h
  exact ⟨b, rfl, trivial⟩
theorem ok_string (ht : P.underlying t = some .string) : OpenK enc P w base spare held Kd.string (fun s => s.size ≤ maxLen) t := by
  intro fuel cs x h
  obtain ⟨s, rfl, _, hs⟩ := DataW.trod_string ht h
  exact ⟨s, rfl, hs⟩
theorem ok_iso {α β : Type} {d : Kd α} {g : α → Prop} (f : β → α) (b : α → β) (hb : ∀ x, f (b x) = x) (h : OpenK enc P w base spare held d g t) : OpenK enc P w base spare held (Kd.iso d f) (fun y => g (f y)) t := by
  intro fuel cs x hx
  obtain ⟨y, hy, hg⟩ := h fuel cs x hx
  exact ⟨b y, by show d.K w (f (b y)) cs; rw [hb]; exact hy, by show g (f (b y)); rw [hb]; exact hg⟩
theorem ok_weaken {α : Type} {d : Kd α} {g g' : α → Prop} (h : OpenK enc P w base spare held d g t) (hg : ∀ x, g x → g' x) : OpenK enc P w base spare held d g' t := by
  intro fuel cs x hx
  obtain ⟨y, hy, h1⟩ := h fuel cs x hx
  exact ⟨y, hy, hg y h1⟩

theorem ok_slice {α : Type} {d : Kd α} {g : α → Prop} {e : TypeId} (ht : P.underlying t = some (.slice e)) (he : P.cellsOf e = d.sz) (hd : OpenK enc P w base spare held d g e) :
    OpenK enc P w base spare held (Kd.slice e d) (fun xs => xs.length ≤ maxLen ∧ ∀ x ∈ xs, g x) t := by
  intro fuel cs x h
  rcases open_slice ht h with ⟨rfl, _⟩ | ⟨a, len, cap, m, n, D, Pl, rfl, hb, hl, hm, hmm, _, hx⟩
  · exact ⟨[], ⟨none, 0, rfl, by simp, rfl, by simp, fun hp => absurd hp (by simp)⟩, by simp [maxLen], fun x hx => by cases hx⟩
  · have hlm : len ≤ m := by rw [hmm]; split <;> omega
    have key : ∀ i, i < len → ∃ y, ∃ c, w.cells? base (a.add (i * P.cellsOf e)) (P.cellsOf e) = some c ∧ d.K w y c ∧ g y := by
      intro i hi
      obtain ⟨cs', h1, h2⟩ := hx i (by omega)
      obtain ⟨y, h3, h4⟩ := hd _ _ _ h2
      exact ⟨y, cs', h1, h3, h4⟩
    rcases Nat.eq_zero_or_pos len with h0 | h0
    · subst h0
      exact ⟨[], ⟨some a, cap, rfl, by simp, rfl, by simp, fun hp => absurd hp (by simp)⟩, by simp [maxLen], fun x hx => by cases hx⟩
    · haveI : Inhabited α := ⟨Classical.choose (key 0 h0)⟩
      obtain ⟨f, hf⟩ := choose_lt (α := α) (p := fun i y => ∃ c, w.cells? base (a.add (i * P.cellsOf e)) (P.cellsOf e) = some c ∧ d.K w y c ∧ g y) key
      refine ⟨(List.range len).map f, ⟨some a, cap, by simp, by simpa using hl, by simp, by simp only [List.length_map, List.length_range, maxLen] at *; omega, fun _ => ⟨a, rfl, fun j p hj => ?_⟩⟩, by simp only [List.length_map, List.length_range]; omega, fun x hx => ?_⟩
      · obtain ⟨hj1, hj2⟩ := List.getElem?_eq_some_iff.1 hj
        have hj3 : j < len := by simpa using hj1
        have : p = f j := by rw [← hj2]; simp
        subst this
        obtain ⟨c, hc, hK, _⟩ := hf j hj3
        obtain ⟨_, hcl, hcell⟩ := World.cells?_some hc
        refine ⟨c, hcl.trans he, hK, fun i u hu => ?_⟩
        have hil : i < c.length := (List.getElem?_eq_some_iff.1 hu).1
        have := hcell i (by omega)
        rw [Deep.add_add] at this
        rw [← he, this, hu]
      · obtain ⟨i, hi, rfl⟩ := List.mem_map.1 hx
        obtain ⟨_, _, _, hg⟩ := hf i (List.mem_range.1 hi)
        exact hg

/-! structs, field by field -/
theorem pair_at {α β : Type} {a : Kd α} {b : Kd β} {cs : List Value} {off : Nat} {x : α} {y : β} (h0 : a.K w x ((cs.drop off).take a.sz)) (h1 : b.K w y (cs.drop (off + a.sz))) : (Kd.pair a b).K w (x, y) (cs.drop off) :=
  ⟨_, _, by rw [← List.drop_drop]; exact (List.take_append_drop a.sz _).symm, h0, h1⟩
theorem last_at {α : Type} {a : Kd α} {cs : List Value} {off : Nat} {x : α} (h : a.K w x ((cs.drop off).take a.sz)) (hl : cs.length ≤ off + a.sz) : a.K w x (cs.drop off) := by
  rwa [List.take_of_length_le (by rw [List.length_drop]; omega)] at h
theorem fld {α : Type} {a : Kd α} {g : α → Prop} {n i : Nat} {f : Field} {cs : List Value} {xs : List (DataW H × List MemPlace)} (ho : OpenK enc P w base spare held a g f.type) (hs : P.cellsOf f.type = a.sz) (hi : i < xs.length)
    (h : DataW.trod enc P w base spare held n f.type ((cs.drop f.offset).take (P.cellsOf f.type)) = xs[i]?) : ∃ y, a.K w y ((cs.drop f.offset).take a.sz) ∧ g y := by
  rw [List.getElem?_eq_getElem hi, hs] at h
  exact ho _ _ _ h
theorem ok_pair2 {α β : Type} {a : Kd α} {b : Kd β} {g : α → Prop} {g' : β → Prop} {f0 f1 : Field} (ht : P.underlying t = some (.struct #[f0, f1]))
    (h0 : OpenK enc P w base spare held a g f0.type) (h1 : OpenK enc P w base spare held b g' f1.type) (s0 : P.cellsOf f0.type = a.sz) (s1 : P.cellsOf f1.type = b.sz) (o0 : f0.offset = 0) (o1 : f1.offset = a.sz) (hc : P.cellsOf t = a.sz + b.sz) :
    OpenK enc P w base spare held (Kd.pair a b) (fun x => g x.1 ∧ g' x.2) t := by
  intro fuel cs x h
  obtain ⟨xs, n, _, _, hl, hxl, hf⟩ := DataW.trod_struct ht h
  have hxl' : xs.length = 2 := hxl
  obtain ⟨y0, k0, g0⟩ := fld h0 s0 (by omega) (hf 0 f0 rfl)
  obtain ⟨y1, k1, g1⟩ := fld h1 s1 (by omega) (hf 1 f1 rfl)
  rw [o0] at k0; rw [o1] at k1
  exact ⟨(y0, y1), pair_at k0 (by rw [Nat.zero_add]; exact last_at k1 (by omega)), g0, g1⟩
theorem ok_pair3 {α β γ : Type} {a : Kd α} {b : Kd β} {c : Kd γ} {g : α → Prop} {g' : β → Prop} {g'' : γ → Prop} {f0 f1 f2 : Field} (ht : P.underlying t = some (.struct #[f0, f1, f2]))
    (h0 : OpenK enc P w base spare held a g f0.type) (h1 : OpenK enc P w base spare held b g' f1.type) (h2 : OpenK enc P w base spare held c g'' f2.type)
    (s0 : P.cellsOf f0.type = a.sz) (s1 : P.cellsOf f1.type = b.sz) (s2 : P.cellsOf f2.type = c.sz) (o0 : f0.offset = 0) (o1 : f1.offset = a.sz) (o2 : f2.offset = a.sz + b.sz) (hc : P.cellsOf t = a.sz + b.sz + c.sz) :
    OpenK enc P w base spare held (Kd.pair a (Kd.pair b c)) (fun x => g x.1 ∧ g' x.2.1 ∧ g'' x.2.2) t := by
  intro fuel cs x h
  obtain ⟨xs, n, _, _, hl, hxl, hf⟩ := DataW.trod_struct ht h
  have hxl' : xs.length = 3 := hxl
  obtain ⟨y0, k0, g0⟩ := fld h0 s0 (by omega) (hf 0 f0 rfl)
  obtain ⟨y1, k1, g1⟩ := fld h1 s1 (by omega) (hf 1 f1 rfl)
  obtain ⟨y2, k2, g2⟩ := fld h2 s2 (by omega) (hf 2 f2 rfl)
  rw [o0] at k0; rw [o1] at k1; rw [o2] at k2
  exact ⟨(y0, y1, y2), pair_at k0 (by rw [Nat.zero_add]; exact pair_at k1 (last_at k2 (by omega))), g0, g1, g2⟩
theorem ok_pair4 {α β γ δ : Type} {a : Kd α} {b : Kd β} {c : Kd γ} {d : Kd δ} {g : α → Prop} {g' : β → Prop} {g'' : γ → Prop} {g3 : δ → Prop} {f0 f1 f2 f3 : Field} (ht : P.underlying t = some (.struct #[f0, f1, f2, f3]))
    (h0 : OpenK enc P w base spare held a g f0.type) (h1 : OpenK enc P w base spare held b g' f1.type) (h2 : OpenK enc P w base spare held c g'' f2.type) (h3 : OpenK enc P w base spare held d g3 f3.type)
    (s0 : P.cellsOf f0.type = a.sz) (s1 : P.cellsOf f1.type = b.sz) (s2 : P.cellsOf f2.type = c.sz) (s3 : P.cellsOf f3.type = d.sz) (o0 : f0.offset = 0) (o1 : f1.offset = a.sz) (o2 : f2.offset = a.sz + b.sz) (o3 : f3.offset = a.sz + b.sz + c.sz) (hc : P.cellsOf t = a.sz + b.sz + c.sz + d.sz) :
    OpenK enc P w base spare held (Kd.pair a (Kd.pair b (Kd.pair c d))) (fun x => g x.1 ∧ g' x.2.1 ∧ g'' x.2.2.1 ∧ g3 x.2.2.2) t := by
  intro fuel cs x h
  obtain ⟨xs, n, _, _, hl, hxl, hf⟩ := DataW.trod_struct ht h
  have hxl' : xs.length = 4 := hxl
  obtain ⟨y0, k0, g0⟩ := fld h0 s0 (by omega) (hf 0 f0 rfl)
  obtain ⟨y1, k1, g1⟩ := fld h1 s1 (by omega) (hf 1 f1 rfl)
  obtain ⟨y2, k2, g2⟩ := fld h2 s2 (by omega) (hf 2 f2 rfl)
  obtain ⟨y3, k3, g3'⟩ := fld h3 s3 (by omega) (hf 3 f3 rfl)
  rw [o0] at k0; rw [o1] at k1; rw [o2] at k2; rw [o3] at k3
  exact ⟨(y0, y1, y2, y3), pair_at k0 (by rw [Nat.zero_add]; exact pair_at k1 (pair_at k2 (last_at k3 (by omega)))), g0, g1, g2, g3'⟩

/-! an argument -/
theorem open_sl {α : Type} {d : Kd α} {g : α → Prop} {e : TypeId} {r : Reach} {b0 : Nat} {v : Value} {x : DataW H} {p : List MemPlace} (ht : P.underlying t = some (.slice e)) (he : P.cellsOf e = d.sz) (hd : OpenK enc P w base spare held d g e)
    (hv : Value.okWide P w r b0 t v) (h : DataW.Trod enc P w base spare held t v x p) : ∃ A c xs, v = .slice A xs.length c ∧ xs.length ≤ c ∧ Kd.C d w A xs.length xs ∧ xs.length ≤ maxLen ∧ ∀ x ∈ xs, g x := by
  obtain ⟨a, len, cap, rfl⟩ := okWide_slice ht hv
  obtain ⟨fuel, hf⟩ := h
  obtain ⟨xs, ⟨A, c, e1, hl, hC⟩, h1, h2⟩ := ok_slice ht he hd fuel _ _ hf
  have e2 : Value.slice a len cap = .slice A xs.length c := by simpa [Value.cells] using e1
  exact ⟨A, c, xs, e2, hl, hC, h1, h2⟩
theorem open_st {α : Type} {d : Kd α} {g : α → Prop} {fs : Array Field} {r : Reach} {b0 : Nat} {v : Value} {x : DataW H} {p : List MemPlace} (ht : P.underlying t = some (.struct fs)) (hd : OpenK enc P w base spare held d g t)
    (hv : Value.okWide P w r b0 t v) (h : DataW.Trod enc P w base spare held t v x p) : ∃ cs y, v = .agg cs ∧ d.K w y cs.toList ∧ g y := by
  obtain ⟨cs, rfl, hsz⟩ := okWide_struct ht hv
  obtain ⟨fuel, hf⟩ := h
  obtain ⟨y, hK, hg⟩ := hd _ _ _ hf
  exact ⟨cs, y, rfl, hK, hg⟩
end
end Go.Proofs.Ytielnpmnnifjcaa.Op
