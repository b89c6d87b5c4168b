/- slices.Clone of bytes: the same bytes in new memory. -/
import Derived.Test.YtielnpmnnifjcaaGate
import Derived.Test.YtielnpmnnifjcaaKit
import Derived.Lib.SliceRun
namespace Go.Proofs.Ytielnpmnnifjcaa.By
open Go.RowKit Go.Proofs.Ytielnpmnnifjcaa.Reg Go.Proofs.YtielnpmnnifjcaaW.PrintWords Go.Proofs.YtielnpmnnifjcaaW.PrintLast Go.Proofs.YtielnpmnnifjcaaW.PrintMore
set_option linter.unusedVariables false
set_option linter.unusedSimpArgs false


theorem R_empty (w : World) : NB (w.alloc (.cells #[] 5)) w.heap.size (.slice (some ⟨w.heap.size, 0, none⟩) 0 0) [] := by
  refine Kd.R_of_own ?_ (fun _ _ => trivial)
  have := World.ownsRow_lit (base := w.heap.size) (e := 5) (size := 1) w #[] 0 (Nat.le_refl _) (by decide) (by simp)
  simpa [encs] using this
set_option maxRecDepth 100000 in
set_option maxHeartbeats 2000000 in
theorem clone_calls (w : World) (A : Option Addr) (n c : Nat) (xs : List Int) (hn : n = xs.length) (hr : Kd.C kb w A n xs) (hc : n ≤ c) (hl : n ≤ 1000000000) :
    Calls Try.prog 37 #[.slice A n c] w fun e w' => ∃ V, e = .returned V ∧ NB w' w.heap.size V xs ∧ Ext w w' := by
  cases A with
  | none =>
    have h0 : n = 0 := by
      rcases Nat.eq_zero_or_pos n with h | h
      · exact h
      · obtain ⟨ad, h1, _⟩ := hr.2.2 h
        cases h1
    subst h0
    obtain rfl : xs = [] := List.length_eq_zero_iff.1 hn.symm
    have hq := fun w => Lib.run_eql_slice_nil (P := Try.prog) w 31 5 none 0 c 0 0 Try.underlying31
    clear hr hc hl hn
    go_enter Try.func37, Try.ntmps37
    go_wp2_with fail
    go_ret
    exact ⟨.slice none 0 0, rfl, Kd.R_nil _ _ _ _ _, Ext.refl _⟩
  | some ad =>
    have HR := Aside0.mk (Kd.C_below hr ((Ext.refl w).alloc (.cells #[] 5)))
    have HO := Aside0.mk (R_empty w)
    have HLIM := Aside0.mk (show (([] : List Int).length + n) * 1 ≤ 140737488355328 by simp; omega)
    have hq := fun w => Lib.run_eql_slice_nil (P := Try.prog) w 31 5 (some ad) n c 0 0 Try.underlying31
    clear hr hn
    go_enter Try.func37, Try.ntmps37
    go_wp2_with (at_builtin; go_loud (refine Kd.R_append_rows kb (w0 := w) w.heap.size rfl (.tmp 5) (.tmp 6) 31 5 (.int .u8 0) 1 rfl Try.underlying31 PArrayPlays.info5 rfl (by decide) (by decide) (.slice (some ⟨w.heap.size, 0, none⟩) 0 0) [] xs (some ad) n c (fun _ => True) (fun _ => False) rfl rfl HO.out HR.out (fun x cs h => h) (fun _ h => h.elim) (fun _ _ => trivial) ((Ext.refl w).alloc _) (by simp) HLIM.out ?_))
    intro V w1 hR hB _ _
    have HV := Aside0.mk (show NB w1 w.heap.size V xs from hR)
    have HE := Aside0.mk (show Ext w w1 from hB)
    clear hR hB
    obtain ⟨A1, c1, hV, _, _⟩ := HV.out.reads
    subst hV
    go_wp2_with fail
    go_ret
    exact ⟨_, rfl, HV.out, HE.out⟩
end Go.Proofs.Ytielnpmnnifjcaa.By
