/- From the reading of an argument whose size is bounded to a Kd fact with the inner slices' lengths bounded. -/
import Derived.Test.YtkgjcmolmogpdaaOpen
import Derived.SizedLaws
namespace Go.Proofs.Ytkgjcmolmogpdaa.Op
open Go.RowKit Go.Proofs.YtkgjcmolmogpdaaW.PrintWords Go.ChangeShapes Go.WideShapes Go.Deep
set_option linter.unusedVariables false
section
variable {H : Type} {enc : TypeId × Value → H} {P : Program} {w : World} {base : Nat} {spare : Nat → Bool} {held : Bool} {t : TypeId}
def OpenZ {α : Type} (enc : TypeId × Value → H) (P : Program) (w : World) (base : Nat) (spare : Nat → Bool) (held : Bool) (d : Kd α) (g : α → Prop) (t : TypeId) : Prop :=
  ∀ (fuel : Nat) (cs : List Value) (x : DataW H × List MemPlace), DataW.trod enc P w base spare held fuel t cs = some x → (∀ n ∈ x.1.weights P t, n ≤ reachBytes) → ∃ y, d.K w y cs ∧ g y
theorem okz_of {α : Type} {d : Kd α} {g : α → Prop} (h : OpenK enc P w base spare held d g t) : OpenZ enc P w base spare held d g t := fun fuel cs x hx _ => h fuel cs x hx
theorem weights_all {e : TypeId} : ∀ {l : List (DataW H)} {d : DataW H} {n : Nat}, d ∈ l → n ∈ d.weights P e → n ∈ DataW.weightsAll P e l
  | d0 :: r, d, n, hd, hn => by
    rw [DataW.weightsAll]
    rcases List.mem_cons.1 hd with rfl | h
    · exact List.mem_append.2 (.inl hn)
    · exact List.mem_append.2 (.inr (weights_all h hn))
theorem okz_slice {α : Type} {d : Kd α} {g : α → Prop} {e : TypeId} (ht : P.underlying t = some (.slice e)) (he : P.cellsOf e = d.sz) (hd : OpenZ enc P w base spare held d g e) :
    OpenZ enc P w base spare held (Kd.slice e d) (fun xs => xs.length * P.bytesOf e ≤ reachBytes ∧ ∀ x ∈ xs, g x) t := by
  intro fuel cs x h hz
  rcases open_slice ht h with ⟨rfl, _⟩ | ⟨a, len, cap, m, n, D, Pl, rfl, hb, hl, hm, hmm, rfl, hx⟩
  · exact ⟨[], ⟨none, 0, rfl, by simp, rfl, by simp, fun hp => absurd hp (by simp)⟩, by simp, fun x hx => by cases hx⟩
  · have hlm : len ≤ m := by rw [hmm]; split <;> omega
    have hw : ∀ n ∈ DataW.weights P t (.slice ((List.range len).map D) ((List.range (m - len)).map fun j => D (len + j))), n ≤ reachBytes := hz
    have hlen : len * P.bytesOf e ≤ reachBytes := by
      have := hw ((((List.range len).map D).length + ((List.range (m - len)).map fun j => D (len + j)).length) * P.bytesOf e) (by simp [DataW.weights, ht])
      simp only [List.length_map, List.length_range] at this
      exact Nat.le_trans (Nat.mul_le_mul_right _ (Nat.le_add_right _ _)) this
    have key : ∀ i, i < len → ∃ y, ∃ c, w.cells? base (a.add (i * P.cellsOf e)) (P.cellsOf e) = some c ∧ d.K w y c ∧ g y := by
      intro i hi
      obtain ⟨cs', h1, h2⟩ := hx i (by omega)
      obtain ⟨y, h3, h4⟩ := hd _ _ _ h2 (fun n hn => hw n (by
        simp only [DataW.weights, ht]
        refine List.mem_cons.2 (.inr (List.mem_append.2 (.inl ?_)))
        exact weights_all (List.mem_map.2 ⟨i, List.mem_range.2 hi, rfl⟩) hn))
      exact ⟨y, cs', h1, h3, h4⟩
    rcases Nat.eq_zero_or_pos len with h0 | h0
    · subst h0
      exact ⟨[], ⟨some a, cap, rfl, by simp, rfl, by simp, fun hp => absurd hp (by simp)⟩, by simp, fun x hx => by cases hx⟩
    · haveI : Inhabited α := ⟨Classical.choose (key 0 h0)⟩
      obtain ⟨f, hf⟩ := choose_lt (α := α) (p := fun i y => ∃ c, w.cells? base (a.add (i * P.cellsOf e)) (P.cellsOf e) = some c ∧ d.K w y c ∧ g y) key
      refine ⟨(List.range len).map f, ⟨some a, cap, by simp, by simpa using hl, by simp, by simp only [List.length_map, List.length_range, maxLen] at *; omega, fun _ => ⟨a, rfl, fun j p hj => ?_⟩⟩, by simpa using hlen, fun x hx => ?_⟩
      · obtain ⟨hj1, hj2⟩ := List.getElem?_eq_some_iff.1 hj
        have hj3 : j < len := by simpa using hj1
        have : p = f j := by rw [← hj2]; simp
        subst this
        obtain ⟨c, hc, hK, _⟩ := hf j hj3
        obtain ⟨_, hcl, hcell⟩ := World.cells?_some hc
        refine ⟨c, hcl.trans he, hK, fun i u hu => ?_⟩
        have hil : i < c.length := (List.getElem?_eq_some_iff.1 hu).1
        have := hcell i (by omega)
        rw [Deep.add_add] at this
        rw [← he, this, hu]
      · obtain ⟨i, hi, rfl⟩ := List.mem_map.1 hx
        obtain ⟨_, _, _, hg⟩ := hf i (List.mem_range.1 hi)
        exact hg
theorem openz_sl {α : Type} {d : Kd α} {g : α → Prop} {e : TypeId} {r : Reach} {b0 : Nat} {v : Value} {x : DataW H} {p : List MemPlace} (ht : P.underlying t = some (.slice e)) (he : P.cellsOf e = d.sz) (hd : OpenZ enc P w base spare held d g e)
    (hv : Value.okWide P w r b0 t v) (h : DataW.Trod enc P w base spare held t v x p) (hz : ∀ n ∈ x.weights P t, n ≤ reachBytes) : ∃ A c xs, v = .slice A xs.length c ∧ xs.length ≤ c ∧ Kd.C d w A xs.length xs ∧ ∀ x ∈ xs, g x := by
  obtain ⟨a, len, cap, rfl⟩ := okWide_slice ht hv
  obtain ⟨fuel, hf⟩ := h
  obtain ⟨xs, ⟨A, c, e1, hl, hC⟩, h1, h2⟩ := okz_slice ht he hd fuel _ _ hf hz
  have e2 : Value.slice a len cap = .slice A xs.length c := by simpa [Value.cells] using e1
  exact ⟨A, c, xs, e2, hl, hC, h2⟩
end
end Go.Proofs.Ytkgjcmolmogpdaa.Op
