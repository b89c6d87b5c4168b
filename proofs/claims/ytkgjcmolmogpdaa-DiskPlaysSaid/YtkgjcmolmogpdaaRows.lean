/-
  No cell of these rows narrows 'for every input' (looked for: loops, veiled, ifaces, maps, wideKeys, modest, calm, conditions, laid).
  DERIVED. THE GIVEN ROWS OF THIS SEAT. 12 by the template 'for every input the law returns true; each argument reads behind the call as it read before'; 0 by the template 'total and deterministic' (their statements: YtkgjcmolmogpdaaTotals.lean).
  GIVEN WITH THE SEED: the statements are not yours to turn. If you find one false, say at which input.
  Laid BY PROGRAM, IN A SANDBOX (cutbox-rows.mjs): the forced cells as the released guide's own fill.sh prints them over the translation 2dea93ee2ebce658… (all of the seat's roots in one cut). By AI agents, Wed Nov 11 2026. No macro, syntax, notation, axiom, sorry.
-/
import Derived.Test.YtkgjcmolmogpdaaChecked
import GoSem.Claim
import GoSem.ClaimJoined
import GoSem.ClaimMapViews
import Derived.JoinedTies
import Derived.KernelRfl
namespace Go.Proofs.Ytkgjcmolmogpdaa
/- THE CELL 'sum', in the pinned program and in every row, IS THE sha256 OF THE DUMP (.gsa) THAT YtkgjcmolmogpdaaProg.lean LOADS. Nothing in Lean hashes anything: it is a label: what it is worth is what the hold of that sum in a sandbox is worth. -/
noncomputable def Try.pinned : Pinned := { name := "ytkgjcmolmogpdaa", sum := "2dea93ee2ebce65835a2c623b8c35581b02ed40b4d73f0491fd51d354aaa25dd", checked := Try.checked }
namespace Rows
def none {H : Type} : Left H := { results := [], args := [] }

/-- 'rilllaw07.DiskLasts': WHATEVER THE INPUT: true; the input reads as it did. -/
def diskLastsSpec : ChangeSpec := { name := "diskLasts", fn := fun _ => fun
  | [d1, d2, d3] => { results := [.lit (.bool true)], args := [d1, d2, d3] }
  | _ => none }
def diskLastsRow : OpenClaim := { program := "ytkgjcmolmogpdaa", sum := "2dea93ee2ebce65835a2c623b8c35581b02ed40b4d73f0491fd51d354aaa25dd", func := "rill/rilllaw07.DiskLasts", spec := "diskLasts", unfollowed := true, recurses := true, apart := false }
def DiskLastsSaid : Prop := diskLastsRow.holds Try.pinned (OpenSpec.ofChange diskLastsSpec)

/-- ITS FALSE NEIGHBOUR: 'it returns false'. Refute it at one input. -/
def diskLastsWrong : ChangeSpec := { name := "diskLasts", fn := fun _ => fun
  | [d1, d2, d3] => { results := [.lit (.bool false)], args := [d1, d2, d3] }
  | _ => none }
def DiskLastsWrongFalsely : Prop := diskLastsRow.holds Try.pinned (OpenSpec.ofChange diskLastsWrong)

/-- 'rilllaw07.DiskLooks': WHATEVER THE INPUT: true; the input reads as it did. -/
def diskLooksSpec : ChangeSpec := { name := "diskLooks", fn := fun _ => fun
  | [d1, d2] => { results := [.lit (.bool true)], args := [d1, d2] }
  | _ => none }
def diskLooksRow : OpenClaim := { program := "ytkgjcmolmogpdaa", sum := "2dea93ee2ebce65835a2c623b8c35581b02ed40b4d73f0491fd51d354aaa25dd", func := "rill/rilllaw07.DiskLooks", spec := "diskLooks", unfollowed := true, recurses := true, apart := false }
def DiskLooksSaid : Prop := diskLooksRow.holds Try.pinned (OpenSpec.ofChange diskLooksSpec)

/-- ITS FALSE NEIGHBOUR: 'it returns false'. Refute it at one input. -/
def diskLooksWrong : ChangeSpec := { name := "diskLooks", fn := fun _ => fun
  | [d1, d2] => { results := [.lit (.bool false)], args := [d1, d2] }
  | _ => none }
def DiskLooksWrongFalsely : Prop := diskLooksRow.holds Try.pinned (OpenSpec.ofChange diskLooksWrong)

/-- 'rilllaw07.DiskTampered': WHATEVER THE INPUT: true; the input reads as it did. -/
def diskTamperedSpec : ChangeSpec := { name := "diskTampered", fn := fun _ => fun
  | [d1, d2, d3, d4] => { results := [.lit (.bool true)], args := [d1, d2, d3, d4] }
  | _ => none }
def diskTamperedRow : OpenClaim := { program := "ytkgjcmolmogpdaa", sum := "2dea93ee2ebce65835a2c623b8c35581b02ed40b4d73f0491fd51d354aaa25dd", func := "rill/rilllaw07.DiskTampered", spec := "diskTampered", unfollowed := true, recurses := true, apart := false }
def DiskTamperedSaid : Prop := diskTamperedRow.holds Try.pinned (OpenSpec.ofChange diskTamperedSpec)

/-- ITS FALSE NEIGHBOUR: 'it returns false'. Refute it at one input. -/
def diskTamperedWrong : ChangeSpec := { name := "diskTampered", fn := fun _ => fun
  | [d1, d2, d3, d4] => { results := [.lit (.bool false)], args := [d1, d2, d3, d4] }
  | _ => none }
def DiskTamperedWrongFalsely : Prop := diskTamperedRow.holds Try.pinned (OpenSpec.ofChange diskTamperedWrong)

/-- 'rilllaw07.DiskFails': WHATEVER THE INPUT: true; the input reads as it did. -/
def diskFailsSpec : ChangeSpec := { name := "diskFails", fn := fun _ => fun
  | [d1, d2] => { results := [.lit (.bool true)], args := [d1, d2] }
  | _ => none }
def diskFailsRow : OpenClaim := { program := "ytkgjcmolmogpdaa", sum := "2dea93ee2ebce65835a2c623b8c35581b02ed40b4d73f0491fd51d354aaa25dd", func := "rill/rilllaw07.DiskFails", spec := "diskFails", unfollowed := true, recurses := true, apart := false }
def DiskFailsSaid : Prop := diskFailsRow.holds Try.pinned (OpenSpec.ofChange diskFailsSpec)

/-- ITS FALSE NEIGHBOUR: 'it returns false'. Refute it at one input. -/
def diskFailsWrong : ChangeSpec := { name := "diskFails", fn := fun _ => fun
  | [d1, d2] => { results := [.lit (.bool false)], args := [d1, d2] }
  | _ => none }
def DiskFailsWrongFalsely : Prop := diskFailsRow.holds Try.pinned (OpenSpec.ofChange diskFailsWrong)

/-- 'rilllaw07.DiskKnown': WHATEVER THE INPUT: true; the input reads as it did. -/
def diskKnownSpec : ChangeSpec := { name := "diskKnown", fn := fun _ => fun
  | [] => { results := [.lit (.bool true)], args := [] }
  | _ => none }
def diskKnownRow : OpenClaim := { program := "ytkgjcmolmogpdaa", sum := "2dea93ee2ebce65835a2c623b8c35581b02ed40b4d73f0491fd51d354aaa25dd", func := "rill/rilllaw07.DiskKnown", spec := "diskKnown", unfollowed := true, recurses := true, apart := false }
def DiskKnownSaid : Prop := diskKnownRow.holds Try.pinned (OpenSpec.ofChange diskKnownSpec)

/-- ITS FALSE NEIGHBOUR: 'it returns false'. Refute it at one input. -/
def diskKnownWrong : ChangeSpec := { name := "diskKnown", fn := fun _ => fun
  | [] => { results := [.lit (.bool false)], args := [] }
  | _ => none }
def DiskKnownWrongFalsely : Prop := diskKnownRow.holds Try.pinned (OpenSpec.ofChange diskKnownWrong)

/-- 'rilllaw07.DiskPlays': WHATEVER THE INPUT: true; the input reads as it did. -/
def diskPlaysSpec : ChangeSpec := { name := "diskPlays", fn := fun _ => fun
  | [d1, d2] => { results := [.lit (.bool true)], args := [d1, d2] }
  | _ => none }
def diskPlaysRow : OpenClaim := { program := "ytkgjcmolmogpdaa", sum := "2dea93ee2ebce65835a2c623b8c35581b02ed40b4d73f0491fd51d354aaa25dd", func := "rill/rilllaw07.DiskPlays", spec := "diskPlays", unfollowed := true, recurses := true, apart := false }
def DiskPlaysSaid : Prop := diskPlaysRow.holds Try.pinned (OpenSpec.ofChange diskPlaysSpec)

/-- ITS FALSE NEIGHBOUR: 'it returns false'. Refute it at one input. -/
def diskPlaysWrong : ChangeSpec := { name := "diskPlays", fn := fun _ => fun
  | [d1, d2] => { results := [.lit (.bool false)], args := [d1, d2] }
  | _ => none }
def DiskPlaysWrongFalsely : Prop := diskPlaysRow.holds Try.pinned (OpenSpec.ofChange diskPlaysWrong)

/-- 'rilllaw08.CountMakes': WHATEVER THE INPUT: true; the input reads as it did. -/
def countMakesSpec : ChangeSpec := { name := "countMakes", fn := fun _ => fun
  | [d1, d2, d3] => { results := [.lit (.bool true)], args := [d1, d2, d3] }
  | _ => none }
def countMakesRow : OpenClaim := { program := "ytkgjcmolmogpdaa", sum := "2dea93ee2ebce65835a2c623b8c35581b02ed40b4d73f0491fd51d354aaa25dd", func := "rill/rilllaw08.CountMakes", spec := "countMakes", unfollowed := true, recurses := true, apart := false }
def CountMakesSaid : Prop := countMakesRow.holds Try.pinned (OpenSpec.ofChange countMakesSpec)

/-- ITS FALSE NEIGHBOUR: 'it returns false'. Refute it at one input. -/
def countMakesWrong : ChangeSpec := { name := "countMakes", fn := fun _ => fun
  | [d1, d2, d3] => { results := [.lit (.bool false)], args := [d1, d2, d3] }
  | _ => none }
def CountMakesWrongFalsely : Prop := countMakesRow.holds Try.pinned (OpenSpec.ofChange countMakesWrong)

/-- 'rilllaw08.CountOrders': WHATEVER THE INPUT: true; the input reads as it did. -/
def countOrdersSpec : ChangeSpec := { name := "countOrders", fn := fun _ => fun
  | [d1, d2, d3, d4] => { results := [.lit (.bool true)], args := [d1, d2, d3, d4] }
  | _ => none }
def countOrdersRow : OpenClaim := { program := "ytkgjcmolmogpdaa", sum := "2dea93ee2ebce65835a2c623b8c35581b02ed40b4d73f0491fd51d354aaa25dd", func := "rill/rilllaw08.CountOrders", spec := "countOrders", unfollowed := true, recurses := true, apart := false }
def CountOrdersSaid : Prop := countOrdersRow.holds Try.pinned (OpenSpec.ofChange countOrdersSpec)

/-- ITS FALSE NEIGHBOUR: 'it returns false'. Refute it at one input. -/
def countOrdersWrong : ChangeSpec := { name := "countOrders", fn := fun _ => fun
  | [d1, d2, d3, d4] => { results := [.lit (.bool false)], args := [d1, d2, d3, d4] }
  | _ => none }
def CountOrdersWrongFalsely : Prop := countOrdersRow.holds Try.pinned (OpenSpec.ofChange countOrdersWrong)

/-- 'rilllaw08.CountSpends': WHATEVER THE INPUT: true; the input reads as it did. -/
def countSpendsSpec : ChangeSpec := { name := "countSpends", fn := fun _ => fun
  | [d1, d2] => { results := [.lit (.bool true)], args := [d1, d2] }
  | _ => none }
def countSpendsRow : OpenClaim := { program := "ytkgjcmolmogpdaa", sum := "2dea93ee2ebce65835a2c623b8c35581b02ed40b4d73f0491fd51d354aaa25dd", func := "rill/rilllaw08.CountSpends", spec := "countSpends", unfollowed := true, recurses := true, apart := false }
def CountSpendsSaid : Prop := countSpendsRow.holds Try.pinned (OpenSpec.ofChange countSpendsSpec)

/-- ITS FALSE NEIGHBOUR: 'it returns false'. Refute it at one input. -/
def countSpendsWrong : ChangeSpec := { name := "countSpends", fn := fun _ => fun
  | [d1, d2] => { results := [.lit (.bool false)], args := [d1, d2] }
  | _ => none }
def CountSpendsWrongFalsely : Prop := countSpendsRow.holds Try.pinned (OpenSpec.ofChange countSpendsWrong)

/-- 'rilllaw08.CountRuns': WHATEVER THE INPUT: true; the input reads as it did. -/
def countRunsSpec : ChangeSpec := { name := "countRuns", fn := fun _ => fun
  | [d] => { results := [.lit (.bool true)], args := [d] }
  | _ => none }
def countRunsRow : OpenClaim := { program := "ytkgjcmolmogpdaa", sum := "2dea93ee2ebce65835a2c623b8c35581b02ed40b4d73f0491fd51d354aaa25dd", func := "rill/rilllaw08.CountRuns", spec := "countRuns", unfollowed := true, recurses := true, apart := false }
def CountRunsSaid : Prop := countRunsRow.holds Try.pinned (OpenSpec.ofChange countRunsSpec)

/-- ITS FALSE NEIGHBOUR: 'it returns false'. Refute it at one input. -/
def countRunsWrong : ChangeSpec := { name := "countRuns", fn := fun _ => fun
  | [d] => { results := [.lit (.bool false)], args := [d] }
  | _ => none }
def CountRunsWrongFalsely : Prop := countRunsRow.holds Try.pinned (OpenSpec.ofChange countRunsWrong)

/-- 'rilllaw08.CountKnown': WHATEVER THE INPUT: true; the input reads as it did. -/
def countKnownSpec : ChangeSpec := { name := "countKnown", fn := fun _ => fun
  | [] => { results := [.lit (.bool true)], args := [] }
  | _ => none }
def countKnownRow : OpenClaim := { program := "ytkgjcmolmogpdaa", sum := "2dea93ee2ebce65835a2c623b8c35581b02ed40b4d73f0491fd51d354aaa25dd", func := "rill/rilllaw08.CountKnown", spec := "countKnown", unfollowed := true, recurses := true, apart := false }
def CountKnownSaid : Prop := countKnownRow.holds Try.pinned (OpenSpec.ofChange countKnownSpec)

/-- ITS FALSE NEIGHBOUR: 'it returns false'. Refute it at one input. -/
def countKnownWrong : ChangeSpec := { name := "countKnown", fn := fun _ => fun
  | [] => { results := [.lit (.bool false)], args := [] }
  | _ => none }
def CountKnownWrongFalsely : Prop := countKnownRow.holds Try.pinned (OpenSpec.ofChange countKnownWrong)

/-- 'rilllaw08.CountRises': WHATEVER THE INPUT: true; the input reads as it did. -/
def countRisesSpec : ChangeSpec := { name := "countRises", fn := fun _ => fun
  | [d] => { results := [.lit (.bool true)], args := [d] }
  | _ => none }
def countRisesRow : OpenClaim := { program := "ytkgjcmolmogpdaa", sum := "2dea93ee2ebce65835a2c623b8c35581b02ed40b4d73f0491fd51d354aaa25dd", func := "rill/rilllaw08.CountRises", spec := "countRises", unfollowed := true, recurses := true, apart := false }
def CountRisesSaid : Prop := countRisesRow.holds Try.pinned (OpenSpec.ofChange countRisesSpec)

/-- ITS FALSE NEIGHBOUR: 'it returns false'. Refute it at one input. -/
def countRisesWrong : ChangeSpec := { name := "countRises", fn := fun _ => fun
  | [d] => { results := [.lit (.bool false)], args := [d] }
  | _ => none }
def CountRisesWrongFalsely : Prop := countRisesRow.holds Try.pinned (OpenSpec.ofChange countRisesWrong)

/- THE SECOND FORM. 'bulk': how many values and letters a reading holds, each counted each time it is reached (what is shared counts as often as it is met; a slice's spare places count too). A statement '..UptoSaid' is the law's where the arguments, and the package variables that the reading takes, are together of bulk at most 1048576: NARROWER than '..Said'. Prove '..Said' where nothing that the law and all that it calls make is longer than what came in: it says more and counts as full. Else prove '..UptoSaid'. A law counts once. -/
mutual
def uptoBulk {H : Type} : DataW H → Nat
  | .lit (.string bytes) => bytes.length + 1
  | .lit _ => 1
  | .nil => 1
  | .ptr d => uptoBulk d + 1
  | .slice elems spare => uptoBulkAll elems + uptoBulkAll spare + 1
  | .agg parts => uptoBulkAll parts + 1
  | .iface _ d => uptoBulk d + 1
  | .map entries => uptoBulkEntries entries + 1
  | .held _ => 1
def uptoBulkAll {H : Type} : List (DataW H) → Nat
  | [] => 0
  | d :: r => uptoBulk d + uptoBulkAll r
def uptoBulkEntries {H : Type} : List (Lit × DataW H) → Nat
  | [] => 0
  | x :: r => uptoBulkEntry x + uptoBulkEntries r
def uptoBulkEntry {H : Type} : Lit × DataW H → Nat
  | (.string bytes, d) => bytes.length + uptoBulk d + 1
  | (_, d) => uptoBulk d + 1
 end
def uptoSmall : (H : Type) → List (DataW H) → Bool := fun _ ds => decide (uptoBulkAll ds ≤ 1048576)
def OpenSpec.upto (s : _root_.Go.ChangeSpec) : _root_.Go.OpenSpec := { _root_.Go.OpenSpec.ofChange s with cond := some uptoSmall }

/-- 'rilllaw07.DiskLasts', WHERE WHAT IT READS IS OF BULK AT MOST 1048576: true; the input reads as it did. -/
def diskLastsUptoRow : OpenClaim := { program := "ytkgjcmolmogpdaa", sum := "2dea93ee2ebce65835a2c623b8c35581b02ed40b4d73f0491fd51d354aaa25dd", func := "rill/rilllaw07.DiskLasts", spec := "diskLasts", unfollowed := true, recurses := true, apart := false, narrowed := true }
def DiskLastsUptoSaid : Prop := diskLastsUptoRow.holds Try.pinned (OpenSpec.upto diskLastsSpec)

/-- 'rilllaw07.DiskLooks', WHERE WHAT IT READS IS OF BULK AT MOST 1048576: true; the input reads as it did. -/
def diskLooksUptoRow : OpenClaim := { program := "ytkgjcmolmogpdaa", sum := "2dea93ee2ebce65835a2c623b8c35581b02ed40b4d73f0491fd51d354aaa25dd", func := "rill/rilllaw07.DiskLooks", spec := "diskLooks", unfollowed := true, recurses := true, apart := false, narrowed := true }
def DiskLooksUptoSaid : Prop := diskLooksUptoRow.holds Try.pinned (OpenSpec.upto diskLooksSpec)

/-- 'rilllaw07.DiskTampered', WHERE WHAT IT READS IS OF BULK AT MOST 1048576: true; the input reads as it did. -/
def diskTamperedUptoRow : OpenClaim := { program := "ytkgjcmolmogpdaa", sum := "2dea93ee2ebce65835a2c623b8c35581b02ed40b4d73f0491fd51d354aaa25dd", func := "rill/rilllaw07.DiskTampered", spec := "diskTampered", unfollowed := true, recurses := true, apart := false, narrowed := true }
def DiskTamperedUptoSaid : Prop := diskTamperedUptoRow.holds Try.pinned (OpenSpec.upto diskTamperedSpec)

/-- 'rilllaw07.DiskFails', WHERE WHAT IT READS IS OF BULK AT MOST 1048576: true; the input reads as it did. -/
def diskFailsUptoRow : OpenClaim := { program := "ytkgjcmolmogpdaa", sum := "2dea93ee2ebce65835a2c623b8c35581b02ed40b4d73f0491fd51d354aaa25dd", func := "rill/rilllaw07.DiskFails", spec := "diskFails", unfollowed := true, recurses := true, apart := false, narrowed := true }
def DiskFailsUptoSaid : Prop := diskFailsUptoRow.holds Try.pinned (OpenSpec.upto diskFailsSpec)

/-- 'rilllaw07.DiskKnown', WHERE WHAT IT READS IS OF BULK AT MOST 1048576: true; the input reads as it did. -/
def diskKnownUptoRow : OpenClaim := { program := "ytkgjcmolmogpdaa", sum := "2dea93ee2ebce65835a2c623b8c35581b02ed40b4d73f0491fd51d354aaa25dd", func := "rill/rilllaw07.DiskKnown", spec := "diskKnown", unfollowed := true, recurses := true, apart := false, narrowed := true }
def DiskKnownUptoSaid : Prop := diskKnownUptoRow.holds Try.pinned (OpenSpec.upto diskKnownSpec)

/-- 'rilllaw07.DiskPlays', WHERE WHAT IT READS IS OF BULK AT MOST 1048576: true; the input reads as it did. -/
def diskPlaysUptoRow : OpenClaim := { program := "ytkgjcmolmogpdaa", sum := "2dea93ee2ebce65835a2c623b8c35581b02ed40b4d73f0491fd51d354aaa25dd", func := "rill/rilllaw07.DiskPlays", spec := "diskPlays", unfollowed := true, recurses := true, apart := false, narrowed := true }
def DiskPlaysUptoSaid : Prop := diskPlaysUptoRow.holds Try.pinned (OpenSpec.upto diskPlaysSpec)

/-- 'rilllaw08.CountMakes', WHERE WHAT IT READS IS OF BULK AT MOST 1048576: true; the input reads as it did. -/
def countMakesUptoRow : OpenClaim := { program := "ytkgjcmolmogpdaa", sum := "2dea93ee2ebce65835a2c623b8c35581b02ed40b4d73f0491fd51d354aaa25dd", func := "rill/rilllaw08.CountMakes", spec := "countMakes", unfollowed := true, recurses := true, apart := false, narrowed := true }
def CountMakesUptoSaid : Prop := countMakesUptoRow.holds Try.pinned (OpenSpec.upto countMakesSpec)

/-- 'rilllaw08.CountOrders', WHERE WHAT IT READS IS OF BULK AT MOST 1048576: true; the input reads as it did. -/
def countOrdersUptoRow : OpenClaim := { program := "ytkgjcmolmogpdaa", sum := "2dea93ee2ebce65835a2c623b8c35581b02ed40b4d73f0491fd51d354aaa25dd", func := "rill/rilllaw08.CountOrders", spec := "countOrders", unfollowed := true, recurses := true, apart := false, narrowed := true }
def CountOrdersUptoSaid : Prop := countOrdersUptoRow.holds Try.pinned (OpenSpec.upto countOrdersSpec)

/-- 'rilllaw08.CountSpends', WHERE WHAT IT READS IS OF BULK AT MOST 1048576: true; the input reads as it did. -/
def countSpendsUptoRow : OpenClaim := { program := "ytkgjcmolmogpdaa", sum := "2dea93ee2ebce65835a2c623b8c35581b02ed40b4d73f0491fd51d354aaa25dd", func := "rill/rilllaw08.CountSpends", spec := "countSpends", unfollowed := true, recurses := true, apart := false, narrowed := true }
def CountSpendsUptoSaid : Prop := countSpendsUptoRow.holds Try.pinned (OpenSpec.upto countSpendsSpec)

/-- 'rilllaw08.CountRuns', WHERE WHAT IT READS IS OF BULK AT MOST 1048576: true; the input reads as it did. -/
def countRunsUptoRow : OpenClaim := { program := "ytkgjcmolmogpdaa", sum := "2dea93ee2ebce65835a2c623b8c35581b02ed40b4d73f0491fd51d354aaa25dd", func := "rill/rilllaw08.CountRuns", spec := "countRuns", unfollowed := true, recurses := true, apart := false, narrowed := true }
def CountRunsUptoSaid : Prop := countRunsUptoRow.holds Try.pinned (OpenSpec.upto countRunsSpec)

/-- 'rilllaw08.CountKnown', WHERE WHAT IT READS IS OF BULK AT MOST 1048576: true; the input reads as it did. -/
def countKnownUptoRow : OpenClaim := { program := "ytkgjcmolmogpdaa", sum := "2dea93ee2ebce65835a2c623b8c35581b02ed40b4d73f0491fd51d354aaa25dd", func := "rill/rilllaw08.CountKnown", spec := "countKnown", unfollowed := true, recurses := true, apart := false, narrowed := true }
def CountKnownUptoSaid : Prop := countKnownUptoRow.holds Try.pinned (OpenSpec.upto countKnownSpec)

/-- 'rilllaw08.CountRises', WHERE WHAT IT READS IS OF BULK AT MOST 1048576: true; the input reads as it did. -/
def countRisesUptoRow : OpenClaim := { program := "ytkgjcmolmogpdaa", sum := "2dea93ee2ebce65835a2c623b8c35581b02ed40b4d73f0491fd51d354aaa25dd", func := "rill/rilllaw08.CountRises", spec := "countRises", unfollowed := true, recurses := true, apart := false, narrowed := true }
def CountRisesUptoSaid : Prop := countRisesUptoRow.holds Try.pinned (OpenSpec.upto countRisesSpec)

end Rows
end Go.Proofs.Ytkgjcmolmogpdaa
