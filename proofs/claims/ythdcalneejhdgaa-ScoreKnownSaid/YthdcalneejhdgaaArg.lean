/- Layer 17's arguments opened: rows and How. -/
import Derived.Test.YthdcalneejhdgaaOpen
import Derived.Test.YthdcalneejhdgaaPScoreVictimx0
namespace Go.Proofs.Ythdcalneejhdgaa.Op
open Go Go.RowKit Go.ChangeShapes Go.WideShapes Go.Deep Go.Proofs.YthdcalneejhdgaaW.PrintWords Go.Proofs.Ythdcalneejhdgaa.PScoreVictim
section
variable {H : Type} {enc : TypeId × Value → H} {w : World} {base : Nat} {spare : Nat → Bool} {held : Bool}
theorem open_seg : OpenK enc Try.prog w base spare held k36 (fun x => (Lit.int .i64 x.f0).wf = true ∧ (Lit.int .i64 x.f1).wf = true ∧ (Lit.int .i64 x.f2).wf = true) 36 :=
  ok_iso (fun x : S36 => (x.f0, x.f1, x.f2)) (fun p => ⟨p.1, p.2.1, p.2.2⟩) (fun _ => rfl)
    (ok_pair3 Try.underlying36 (ok_int Try.underlying3) (ok_int Try.underlying3) (ok_int Try.underlying3) (by kernel_rfl) (by kernel_rfl) (by kernel_rfl) rfl rfl rfl (by kernel_rfl))
theorem open_how {r : Reach} {b0 : Nat} {v : Value} {x : DataW H} {p : List MemPlace} (hv : Value.okWide Try.prog w r b0 27 v) (h : DataW.Trod enc Try.prog w base spare held 27 v x p) :
    ∃ a b c, v = .agg #[.int .i64 a, .int .i64 b, .int .i64 c] ∧ (Lit.int .i64 c).wf = true := by
  obtain ⟨cs, y, rfl, ⟨_, _, e, e0, ⟨_, _, rfl, e1, e2⟩⟩, hg⟩ := open_st Try.underlying27 (ok_pair3 Try.underlying27 (ok_int Try.underlying3) (ok_int Try.underlying3) (ok_int Try.underlying3) (by kernel_rfl) (by kernel_rfl) (by kernel_rfl) rfl rfl rfl (by kernel_rfl)) hv h
  refine ⟨y.1, y.2.1, y.2.2, ?_, hg.2.2⟩
  congr 1
  apply Array.toList_inj.1
  rw [e]
  have e0' : _ = [Value.int .i64 y.1] := e0
  have e1' : _ = [Value.int .i64 y.2.1] := e1
  have e2' : _ = [Value.int .i64 y.2.2] := e2
  rw [e0', e1', e2']
  rfl
end
end Go.Proofs.Ythdcalneejhdgaa.Op
