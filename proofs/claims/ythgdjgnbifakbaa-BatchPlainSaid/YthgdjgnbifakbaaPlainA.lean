/- BatchPlain: bytes tell summaries apart; a cut is refused, and a byte more. -/
import Derived.Test.YthgdjgnbifakbaaLe
import Derived.Test.YthgdjgnbifakbaaCutLaw
namespace Go.Proofs.Ythgdjgnbifakbaa.By
open Go.RowKit Go.Proofs.Ythgdjgnbifakbaa.Reg Go.Proofs.YthgdjgnbifakbaaW.PrintWords Go.Proofs.YthgdjgnbifakbaaW.PrintLast Go.Proofs.YthgdjgnbifakbaaW.PrintMore
set_option linter.unusedVariables false
set_option linter.unusedSimpArgs false


theorem C_cut {w : World} {A : Option Addr} {n : Nat} {X : List Int} (h : Kd.C kb w A n X) (m : Nat) (hm : m ≤ n) : Kd.C kb w A m (X.take m) := by
  have hn := h.1
  refine ⟨by rw [List.length_take]; omega, Nat.le_trans hm h.2.1, fun hp => ?_⟩
  obtain ⟨ad, e, f⟩ := h.2.2 (by omega)
  refine ⟨ad, e, fun j p hj => f j p ?_⟩
  rw [List.getElem?_take] at hj
  split at hj
  · exact hj
  · cases hj
theorem put_inj {st st2 nx nx2 : Int} {pr pr2 : List Int} {es es2 : List Th} (q : Smy.ok (st, pr, nx, es)) (q2 : Smy.ok (st2, pr2, nx2, es2)) (h : checkF st nx es = 0) (h2 : checkF st2 nx2 es2 = 0) : (smyB st pr nx es = smyB st2 pr2 nx2 es2) ↔ (st = st2 ∧ pr = pr2 ∧ nx = nx2 ∧ es = es2) := by
  constructor
  · intro e
    have a := get_put st nx pr es q.1 q.2.2.1 q.2.1.1 q.2.2.2 h
    have b := get_put st2 nx2 pr2 es2 q2.1 q2.2.2.1 q2.2.1.1 q2.2.2.2 h2
    rw [e] at a
    exact ⟨a.2.1.symm.trans b.2.1, a.2.2.1.symm.trans b.2.2.1, a.2.2.2.1.symm.trans b.2.2.2.1, a.2.2.2.2.symm.trans b.2.2.2.2⟩
  · rintro ⟨rfl, rfl, rfl, rfl⟩
    rfl
end Go.Proofs.Ythgdjgnbifakbaa.By
