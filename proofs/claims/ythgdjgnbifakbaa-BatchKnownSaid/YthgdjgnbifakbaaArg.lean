/- Arguments with arrays in them. -/
import Derived.Test.YthgdjgnbifakbaaOpen
import Derived.Test.YthgdjgnbifakbaaPuts
import Derived.Test.YthgdjgnbifakbaaWArr
namespace Go.Proofs.Ythgdjgnbifakbaa.Op
open Go Go.RowKit Go.ChangeShapes Go.WideShapes Go.Deep Go.Proofs.YthgdjgnbifakbaaW.PrintWords
section
variable {H : Type} {enc : TypeId × Value → H} {P : Program} {w : World} {base : Nat} {spare : Nat → Bool} {held : Bool} {t : TypeId}
theorem ok_arr {α : Type} {d : Kd α} {g : α → Prop} {n : Nat} {e : TypeId} (hs : 0 < d.sz) (ht : P.underlying t = some (.array n e)) (he : P.cellsOf e = d.sz) (hct : P.cellsOf t = n * d.sz) (hd : OpenK enc P w base spare held d g e) :
    OpenK enc P w base spare held (Kd.arr n d hs) (fun xs => xs.length = n ∧ ∀ x ∈ xs, g x) t := by
  intro fuel cs x h
  obtain ⟨xs, m, _, _, hl, hxl, hf⟩ := DataW.trod_array ht h
  have key : ∀ i, i < n → ∃ y, d.K w y ((cs.drop (i * d.sz)).take d.sz) ∧ g y := by
    intro i hi
    have h1 := hf i hi
    rw [List.getElem?_eq_getElem (by omega), he] at h1
    exact hd _ _ _ h1
  rcases Nat.eq_zero_or_pos n with h0 | h0
  · subst h0
    exact ⟨[], ⟨rfl, by rw [hl, hct]; simp, fun j p hj => by simp at hj⟩, rfl, fun x hx => by cases hx⟩
  · haveI : Inhabited α := ⟨Classical.choose (key 0 h0)⟩
    obtain ⟨f, hf⟩ := choose_lt key
    refine ⟨(List.range n).map f, ⟨by simp, by rw [hl, hct]; simp, fun j p hj => ?_⟩, by simp, fun x hx => ?_⟩
    · obtain ⟨hj1, hj2⟩ := List.getElem?_eq_some_iff.1 hj
      have hj3 : j < n := by simpa using hj1
      have : p = f j := by rw [← hj2]; simp
      subst this
      exact (hf j hj3).1
    · obtain ⟨i, hi, rfl⟩ := List.mem_map.1 hx
      exact (hf i (List.mem_range.1 hi)).2
end
open Go.Proofs.Ythgdjgnbifakbaa.By
section
variable {H : Type} {enc : TypeId × Value → H} {w : World} {base : Nat} {spare : Nat → Bool} {held : Bool}
theorem byte_wf {x : Int} (h : (Lit.int .u8 x).wf = true) : 0 ≤ x ∧ x < 256 := by simp [Lit.wf, IntKind.min, IntKind.max, IntKind.signed, IntKind.bits] at h; omega
abbrev kSum : Kd (List Int) := Kd.arr 32 kb (by decide)
theorem ok_sum : OpenK enc Try.prog w base spare held kSum (fun s => s.length = 32 ∧ isB s) 24 :=
  ok_weaken (ok_arr (by decide) Try.underlying24 (by kernel_rfl) (by kernel_rfl) (ok_int Try.underlying5)) (fun s h => ⟨h.1, fun x hx => byte_wf (h.2 x hx)⟩)
theorem ok_ref : OpenK enc Try.prog w base spare held (Kd.pair (Kd.int .i64) kSum) (fun x => (Lit.int .i64 x.1).wf = true ∧ x.2.length = 32 ∧ isB x.2) 26 :=
  ok_pair2 Try.underlying26 (ok_int Try.underlying3) ok_sum (by kernel_rfl) (by kernel_rfl) (by kernel_rfl) (by kernel_rfl) (by kernel_rfl)
theorem ref_cells {w : World} {y : Int × List Int} {cs : List Value} (h : (Kd.pair (Kd.int .i64) kSum).K w y cs) : cs = refC y.1 y.2 ∧ y.2.length = 32 := by
  obtain ⟨c0, c1, rfl, h0, h1⟩ := h
  have h1' := Kd.arr_cells h1
  have h0' : c0 = [.int .i64 y.1] := h0
  rw [h0', h1'.2]
  exact ⟨rfl, h1'.1⟩
theorem open_ref {r : Reach} {b0 : Nat} {v : Value} {x : DataW H} {p : List MemPlace} (hv : Value.okWide Try.prog w r b0 26 v) (h : DataW.Trod enc Try.prog w base spare held 26 v x p) :
    ∃ a s, v = refV a s ∧ (Lit.int .i64 a).wf = true ∧ s.length = 32 ∧ isB s := by
  obtain ⟨cs, y, rfl, hK, hg⟩ := open_st Try.underlying26 ok_ref hv h
  exact ⟨y.1, y.2, by unfold refV; rw [← (ref_cells hK).1], hg.1, hg.2.1, hg.2.2⟩
end
end Go.Proofs.Ythgdjgnbifakbaa.Op
