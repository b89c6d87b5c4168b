/- MacKnown: whatever the input, the call returns true, and each argument reads behind it as it did; the tables hold what the program lays in them (tied). -/
import Derived.Test.YtbnbncnmhhioeaaDoorCards
import Derived.Test.YtbnbncnmhhioeaaDoorTie
import Derived.Test.YtbnbncnmhhioeaaDoorLMKnown
import Derived.Test.YtbnbncnmhhioeaaDoorOpen
import Derived.WalkKit
import Derived.ProofKit
import Derived.OpenShut
import Derived.ShutString
import Derived.ChangeOld
import Derived.Below
import Derived.SizedLaws
import Derived.LaidMore
import Derived.Stop.Joined
import Derived.Lib.LaidTab
import Derived.Stop.LaidErr
import Derived.SevenTiedAt
namespace Go.Proofs.YtbnbncnmhhioeaaDoor.macKnown
open Go.ChangeShapes Go.WideShapes Go.ChangeAt Go.RowKit
open Go.ChangeMaps (open_string shut_string)
open Go.Proofs.YtbnbncnmhhioeaaDoor.By Go.Proofs.YtbnbncnmhhioeaaDoor.Op Go.Proofs.YtbnbncnmhhioeaaDoorW.PrintWords
set_option linter.unusedVariables false
theorem own : ownKnob Tryd.prog.godebug = none := by kernel_rfl
theorem laidOut : laidOutB Tryd.prog = true := by kernel_rfl
abbrev laidL : List (String × DataW Unit) := [("rill/rillref01.K", Rows.laid_rill_rillref01_K), ("rill/sha.k", Rows.laid_rill_sha_k)]
theorem door_met (os : Os) (args : Array Value) : laidMetH Tryd.prog laidL ((World.doorLaid Tryd.prog 400 os).forCall (fun _ _ => 0) ⟨#[], args, []⟩).memory :=
  laidMetH_of_parts3 (fuel := 8) (laidMet_of_run' 8 (by kernel_rfl) (by kernel_rfl)) (by kernel_rfl) (by kernel_rfl)
theorem tabs {W : World} (h : laidMetH Tryd.prog laidL W) : Tab 0 W ∧ Tab 1 W := by
  rw [MakeChecks.laidMetH_plain _ _ _ (by kernel_rfl)] at h
  have t0 := Lib.tabIs_of_head (name := "rill/rillref01.K") (k := .u32) (zs := kL) (g := 0) (t := 64) (e := 39) (n := 64) (by kernel_rfl) (by kernel_rfl) Tryd.underlying64 Tryd.underlying39 (by kernel_rfl) (by kernel_rfl) h
  have t1 := Lib.tabIs_of_head (name := "rill/sha.k") (k := .u32) (zs := kL) (g := 1) (t := 64) (e := 39) (n := 64) (by kernel_rfl) (by kernel_rfl) Tryd.underlying64 Tryd.underlying39 (by kernel_rfl) (by kernel_rfl) h.tail
  refine ⟨fun i hi => ?_, fun i hi => ?_⟩
  · exact t0.cell (g := 0) (by kernel_rfl) i hi
  · exact t1.cell (g := 1) (by kernel_rfl) i hi
set_option maxHeartbeats 1000000 in
set_option maxRecDepth 100000 in
theorem lifted (os : Os) (started : os.Started) (H : Type) (enc : TypeId × Value → H) :
    ReturnsInHanded {} Tryd.checked os 13 .any (fun w args => (Rows.macKnownSpec.pre enc Tryd.prog Tryd.f13 [] false w args ∧ laidMetH Tryd.prog laidL w) ∧ sizedMet enc Tryd.prog Tryd.f13 (OpenSpec.ofChange Rows.macKnownSpec) false w args) (Rows.macKnownSpec.post enc Tryd.prog Tryd.f13 false true false false) := by
  refine returnsInHanded_of_change_and (C := Tryd.checked) (X := fun w _ => laidMetH Tryd.prog laidL w) (fun _ _ _ hh h => h.of_heap hh) own started (by kernel_rfl) Tryd.func13
    (ChangeSpec.witness_shaped (enc := enc) (C := Tryd.checked) (os := os) (X := fun w _ => laidMetH Tryd.prog laidL w) false (World.doorLaid Tryd.prog 400 os) #[] 8 rfl (World.shaped_of_RefB (by kernel_rfl) (by kernel_rfl)) (by kernel_rfl) (by kernel_rfl) (by kernel_rfl) (door_met os _)) ?_
  intro W base args ds gs before hval0 hW _ hsz0 hL _
  have hval : ∀ (j : Nat) t v, Tryd.f13.params[j]? = some t → args[j]? = some v → Value.okWide Tryd.prog W .any base t v := hval0
  have hW' := hW
  obtain ⟨p, q, hA0, hV, rfl, hfz, hnd⟩ := hW
  have hA : DataW.TrodAll enc Tryd.prog W 0 (fun _ => true) true Tryd.f13.params.toList args.toList ds p := hA0
  rw [Tryd.params13] at hA hval
  obtain ⟨rfl, rfl, rfl⟩ := trodAll_none hA
  obtain ⟨rfl, rfl⟩ := trodVars_none hV
  obtain ⟨hT0, hT1⟩ := tabs hL
  have hsize : 2 ≤ W.heap.size := (show 1 < W.heap.size from World.block_lt_of_cell? W _ (hT1 0 (by decide)))
  clear hA0 hval0 hsz0
  refine (lmknown_calls W hT0 hT1 hsize).mono fun e W' ⟨he, bel⟩ => ?_
  subst he
  exact ⟨_, rfl, _, _, _, [], _, [], hW', trodAll_mk1 (shut_bool Tryd.underlying4 _), trodAll_mk0, rfl, bel.frame _, fun h => by cases h⟩
theorem over : Rows.macKnownRow.holds Tryd.pinned (OpenSpec.ofChange Rows.macKnownSpec) :=
  OpenClaim.holds_of_wide 13 Tryd.f13 rfl rfl rfl rfl rfl rfl rfl ⟨rfl, rfl, rfl, rfl, rfl⟩ rfl rfl rfl rfl rfl (by kernel_rfl) Tryd.func13 (by kernel_rfl)
    (of_decide_eq_true (by kernel_rfl)) (by unfold Func.isWrapper; first | (rw [if_pos (by decide +kernel)]; kernel_rfl) | (rw [if_neg (by decide +kernel)]; exact ⟨rfl, rfl⟩))
    (fun os started H enc _ => lifted os started H enc)
theorem proved : Rows.MacKnownCardSaid :=
  Claim7.holds_tied_plain_at .later [] [.data, .data] true (true, Rows.macKnownCard.stood.harness.2) false
    over (fun _ h => by cases h) (by kernel_rfl) (fun _ h => by cases h) macKnown_row_tie rfl ⟨rfl, rfl⟩ (by kernel_rfl) rfl
    (fun f fn hf hfn => by
      obtain rfl : f = 13 := Option.some.inj ((show Tryd.prog.funcNamed "rill/rilllaw02.MacKnown" = some 13 by kernel_rfl).symm.trans hf) |>.symm
      obtain rfl : fn = Tryd.f13 := (Option.some.inj (Tryd.func13.symm.trans hfn)).symm
      exact ⟨by kernel_rfl, fun j t ht => by
        rw [Tryd.params13] at ht
        exact absurd ht (by simp)⟩)
    (by kernel_rfl)
#print axioms proved
end Go.Proofs.YtbnbncnmhhioeaaDoor.macKnown
