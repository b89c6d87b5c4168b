/-
  No cell of these rows narrows 'for every input' (looked for: loops, veiled, ifaces, maps, wideKeys, modest, calm, conditions, laid).
  DERIVED. THE GIVEN ROWS OF THIS SEAT. 13 by the template 'for every input the law returns true; each argument reads behind the call as it read before'; 0 by the template 'total and deterministic' (their statements: YthgdjgnbifakbaaTotals.lean).
  GIVEN WITH THE SEED: the statements are not yours to turn. If you find one false, say at which input.
  Laid BY PROGRAM, IN A SANDBOX (cutbox-rows.mjs): the forced cells as the released guide's own fill.sh prints them over the translation 09908bbdec1b0f24… (all of the seat's roots in one cut). By AI agents, Wed Nov 11 2026. No macro, syntax, notation, axiom, sorry.
-/
import Derived.Test.YthgdjgnbifakbaaChecked
import GoSem.Claim
import GoSem.ClaimJoined
import GoSem.ClaimMapViews
import Derived.JoinedTies
import Derived.KernelRfl
namespace Go.Proofs.Ythgdjgnbifakbaa
/- THE CELL 'sum', in the pinned program and in every row, IS THE sha256 OF THE DUMP (.gsa) THAT YthgdjgnbifakbaaProg.lean LOADS. Nothing in Lean hashes anything: it is a label: what it is worth is what the hold of that sum in a sandbox is worth. -/
noncomputable def Try.pinned : Pinned := { name := "ythgdjgnbifakbaa", sum := "09908bbdec1b0f24f9df2b0a8ba122d985d221643707c4858bc2184f716ebf48", checked := Try.checked }
namespace Rows
def none {H : Type} : Left H := { results := [], args := [] }

/-- 'rilllaw09.PackPuts': WHATEVER THE INPUT: true; the input reads as it did. -/
def packPutsSpec : ChangeSpec := { name := "packPuts", fn := fun _ => fun
  | [d1, d2, d3] => { results := [.lit (.bool true)], args := [d1, d2, d3] }
  | _ => none }
def packPutsRow : OpenClaim := { program := "ythgdjgnbifakbaa", sum := "09908bbdec1b0f24f9df2b0a8ba122d985d221643707c4858bc2184f716ebf48", func := "rill/rilllaw09.PackPuts", spec := "packPuts", unfollowed := true, recurses := true, apart := false }
def PackPutsSaid : Prop := packPutsRow.holds Try.pinned (OpenSpec.ofChange packPutsSpec)

/-- ITS FALSE NEIGHBOUR: 'it returns false'. Refute it at one input. -/
def packPutsWrong : ChangeSpec := { name := "packPuts", fn := fun _ => fun
  | [d1, d2, d3] => { results := [.lit (.bool false)], args := [d1, d2, d3] }
  | _ => none }
def PackPutsWrongFalsely : Prop := packPutsRow.holds Try.pinned (OpenSpec.ofChange packPutsWrong)

/-- 'rilllaw09.PackOnly': WHATEVER THE INPUT: true; the input reads as it did. -/
def packOnlySpec : ChangeSpec := { name := "packOnly", fn := fun _ => fun
  | [d] => { results := [.lit (.bool true)], args := [d] }
  | _ => none }
def packOnlyRow : OpenClaim := { program := "ythgdjgnbifakbaa", sum := "09908bbdec1b0f24f9df2b0a8ba122d985d221643707c4858bc2184f716ebf48", func := "rill/rilllaw09.PackOnly", spec := "packOnly", unfollowed := true, recurses := true, apart := false }
def PackOnlySaid : Prop := packOnlyRow.holds Try.pinned (OpenSpec.ofChange packOnlySpec)

/-- ITS FALSE NEIGHBOUR: 'it returns false'. Refute it at one input. -/
def packOnlyWrong : ChangeSpec := { name := "packOnly", fn := fun _ => fun
  | [d] => { results := [.lit (.bool false)], args := [d] }
  | _ => none }
def PackOnlyWrongFalsely : Prop := packOnlyRow.holds Try.pinned (OpenSpec.ofChange packOnlyWrong)

/-- 'rilllaw09.PackKnown': WHATEVER THE INPUT: true; the input reads as it did. -/
def packKnownSpec : ChangeSpec := { name := "packKnown", fn := fun _ => fun
  | [] => { results := [.lit (.bool true)], args := [] }
  | _ => none }
def packKnownRow : OpenClaim := { program := "ythgdjgnbifakbaa", sum := "09908bbdec1b0f24f9df2b0a8ba122d985d221643707c4858bc2184f716ebf48", func := "rill/rilllaw09.PackKnown", spec := "packKnown", unfollowed := true, recurses := true, apart := false }
def PackKnownSaid : Prop := packKnownRow.holds Try.pinned (OpenSpec.ofChange packKnownSpec)

/-- ITS FALSE NEIGHBOUR: 'it returns false'. Refute it at one input. -/
def packKnownWrong : ChangeSpec := { name := "packKnown", fn := fun _ => fun
  | [] => { results := [.lit (.bool false)], args := [] }
  | _ => none }
def PackKnownWrongFalsely : Prop := packKnownRow.holds Try.pinned (OpenSpec.ofChange packKnownWrong)

/-- 'rilllaw09.PackReads': WHATEVER THE INPUT: true; the input reads as it did. -/
def packReadsSpec : ChangeSpec := { name := "packReads", fn := fun _ => fun
  | [d1, d2] => { results := [.lit (.bool true)], args := [d1, d2] }
  | _ => none }
def packReadsRow : OpenClaim := { program := "ythgdjgnbifakbaa", sum := "09908bbdec1b0f24f9df2b0a8ba122d985d221643707c4858bc2184f716ebf48", func := "rill/rilllaw09.PackReads", spec := "packReads", unfollowed := true, recurses := true, apart := false }
def PackReadsSaid : Prop := packReadsRow.holds Try.pinned (OpenSpec.ofChange packReadsSpec)

/-- ITS FALSE NEIGHBOUR: 'it returns false'. Refute it at one input. -/
def packReadsWrong : ChangeSpec := { name := "packReads", fn := fun _ => fun
  | [d1, d2] => { results := [.lit (.bool false)], args := [d1, d2] }
  | _ => none }
def PackReadsWrongFalsely : Prop := packReadsRow.holds Try.pinned (OpenSpec.ofChange packReadsWrong)

/-- 'rilllaw09.PackBack': WHATEVER THE INPUT: true; the input reads as it did. -/
def packBackSpec : ChangeSpec := { name := "packBack", fn := fun _ => fun
  | [d1, d2] => { results := [.lit (.bool true)], args := [d1, d2] }
  | _ => none }
def packBackRow : OpenClaim := { program := "ythgdjgnbifakbaa", sum := "09908bbdec1b0f24f9df2b0a8ba122d985d221643707c4858bc2184f716ebf48", func := "rill/rilllaw09.PackBack", spec := "packBack", unfollowed := true, recurses := true, apart := false }
def PackBackSaid : Prop := packBackRow.holds Try.pinned (OpenSpec.ofChange packBackSpec)

/-- ITS FALSE NEIGHBOUR: 'it returns false'. Refute it at one input. -/
def packBackWrong : ChangeSpec := { name := "packBack", fn := fun _ => fun
  | [d1, d2] => { results := [.lit (.bool false)], args := [d1, d2] }
  | _ => none }
def PackBackWrongFalsely : Prop := packBackRow.holds Try.pinned (OpenSpec.ofChange packBackWrong)

/-- 'rilllaw09.PackCut': WHATEVER THE INPUT: true; the input reads as it did. -/
def packCutSpec : ChangeSpec := { name := "packCut", fn := fun _ => fun
  | [d1, d2] => { results := [.lit (.bool true)], args := [d1, d2] }
  | _ => none }
def packCutRow : OpenClaim := { program := "ythgdjgnbifakbaa", sum := "09908bbdec1b0f24f9df2b0a8ba122d985d221643707c4858bc2184f716ebf48", func := "rill/rilllaw09.PackCut", spec := "packCut", unfollowed := true, recurses := true, apart := false }
def PackCutSaid : Prop := packCutRow.holds Try.pinned (OpenSpec.ofChange packCutSpec)

/-- ITS FALSE NEIGHBOUR: 'it returns false'. Refute it at one input. -/
def packCutWrong : ChangeSpec := { name := "packCut", fn := fun _ => fun
  | [d1, d2] => { results := [.lit (.bool false)], args := [d1, d2] }
  | _ => none }
def PackCutWrongFalsely : Prop := packCutRow.holds Try.pinned (OpenSpec.ofChange packCutWrong)

/-- 'rilllaw12.BatchPuts': WHATEVER THE INPUT: true; the input reads as it did. -/
def batchPutsSpec : ChangeSpec := { name := "batchPuts", fn := fun _ => fun
  | [d] => { results := [.lit (.bool true)], args := [d] }
  | _ => none }
def batchPutsRow : OpenClaim := { program := "ythgdjgnbifakbaa", sum := "09908bbdec1b0f24f9df2b0a8ba122d985d221643707c4858bc2184f716ebf48", func := "rill/rilllaw12.BatchPuts", spec := "batchPuts", unfollowed := true, recurses := true, apart := false }
def BatchPutsSaid : Prop := batchPutsRow.holds Try.pinned (OpenSpec.ofChange batchPutsSpec)

/-- ITS FALSE NEIGHBOUR: 'it returns false'. Refute it at one input. -/
def batchPutsWrong : ChangeSpec := { name := "batchPuts", fn := fun _ => fun
  | [d] => { results := [.lit (.bool false)], args := [d] }
  | _ => none }
def BatchPutsWrongFalsely : Prop := batchPutsRow.holds Try.pinned (OpenSpec.ofChange batchPutsWrong)

/-- 'rilllaw12.BatchGets': WHATEVER THE INPUT: true; the input reads as it did. -/
def batchGetsSpec : ChangeSpec := { name := "batchGets", fn := fun _ => fun
  | [d] => { results := [.lit (.bool true)], args := [d] }
  | _ => none }
def batchGetsRow : OpenClaim := { program := "ythgdjgnbifakbaa", sum := "09908bbdec1b0f24f9df2b0a8ba122d985d221643707c4858bc2184f716ebf48", func := "rill/rilllaw12.BatchGets", spec := "batchGets", unfollowed := true, recurses := true, apart := false }
def BatchGetsSaid : Prop := batchGetsRow.holds Try.pinned (OpenSpec.ofChange batchGetsSpec)

/-- ITS FALSE NEIGHBOUR: 'it returns false'. Refute it at one input. -/
def batchGetsWrong : ChangeSpec := { name := "batchGets", fn := fun _ => fun
  | [d] => { results := [.lit (.bool false)], args := [d] }
  | _ => none }
def BatchGetsWrongFalsely : Prop := batchGetsRow.holds Try.pinned (OpenSpec.ofChange batchGetsWrong)

/-- 'rilllaw12.BatchBack': WHATEVER THE INPUT: true; the input reads as it did. -/
def batchBackSpec : ChangeSpec := { name := "batchBack", fn := fun _ => fun
  | [d] => { results := [.lit (.bool true)], args := [d] }
  | _ => none }
def batchBackRow : OpenClaim := { program := "ythgdjgnbifakbaa", sum := "09908bbdec1b0f24f9df2b0a8ba122d985d221643707c4858bc2184f716ebf48", func := "rill/rilllaw12.BatchBack", spec := "batchBack", unfollowed := true, recurses := true, apart := false }
def BatchBackSaid : Prop := batchBackRow.holds Try.pinned (OpenSpec.ofChange batchBackSpec)

/-- ITS FALSE NEIGHBOUR: 'it returns false'. Refute it at one input. -/
def batchBackWrong : ChangeSpec := { name := "batchBack", fn := fun _ => fun
  | [d] => { results := [.lit (.bool false)], args := [d] }
  | _ => none }
def BatchBackWrongFalsely : Prop := batchBackRow.holds Try.pinned (OpenSpec.ofChange batchBackWrong)

/-- 'rilllaw12.BatchForms': WHATEVER THE INPUT: true; the input reads as it did. -/
def batchFormsSpec : ChangeSpec := { name := "batchForms", fn := fun _ => fun
  | [d] => { results := [.lit (.bool true)], args := [d] }
  | _ => none }
def batchFormsRow : OpenClaim := { program := "ythgdjgnbifakbaa", sum := "09908bbdec1b0f24f9df2b0a8ba122d985d221643707c4858bc2184f716ebf48", func := "rill/rilllaw12.BatchForms", spec := "batchForms", unfollowed := true, recurses := true, apart := false }
def BatchFormsSaid : Prop := batchFormsRow.holds Try.pinned (OpenSpec.ofChange batchFormsSpec)

/-- ITS FALSE NEIGHBOUR: 'it returns false'. Refute it at one input. -/
def batchFormsWrong : ChangeSpec := { name := "batchForms", fn := fun _ => fun
  | [d] => { results := [.lit (.bool false)], args := [d] }
  | _ => none }
def BatchFormsWrongFalsely : Prop := batchFormsRow.holds Try.pinned (OpenSpec.ofChange batchFormsWrong)

/-- 'rilllaw12.BatchPlain': WHATEVER THE INPUT: true; the input reads as it did. -/
def batchPlainSpec : ChangeSpec := { name := "batchPlain", fn := fun _ => fun
  | [d1, d2, d3, d4] => { results := [.lit (.bool true)], args := [d1, d2, d3, d4] }
  | _ => none }
def batchPlainRow : OpenClaim := { program := "ythgdjgnbifakbaa", sum := "09908bbdec1b0f24f9df2b0a8ba122d985d221643707c4858bc2184f716ebf48", func := "rill/rilllaw12.BatchPlain", spec := "batchPlain", unfollowed := true, recurses := true, apart := false }
def BatchPlainSaid : Prop := batchPlainRow.holds Try.pinned (OpenSpec.ofChange batchPlainSpec)

/-- ITS FALSE NEIGHBOUR: 'it returns false'. Refute it at one input. -/
def batchPlainWrong : ChangeSpec := { name := "batchPlain", fn := fun _ => fun
  | [d1, d2, d3, d4] => { results := [.lit (.bool false)], args := [d1, d2, d3, d4] }
  | _ => none }
def BatchPlainWrongFalsely : Prop := batchPlainRow.holds Try.pinned (OpenSpec.ofChange batchPlainWrong)

/-- 'rilllaw12.BatchKnown': WHATEVER THE INPUT: true; the input reads as it did. -/
def batchKnownSpec : ChangeSpec := { name := "batchKnown", fn := fun _ => fun
  | [] => { results := [.lit (.bool true)], args := [] }
  | _ => none }
def batchKnownRow : OpenClaim := { program := "ythgdjgnbifakbaa", sum := "09908bbdec1b0f24f9df2b0a8ba122d985d221643707c4858bc2184f716ebf48", func := "rill/rilllaw12.BatchKnown", spec := "batchKnown", unfollowed := true, recurses := true, apart := false }
def BatchKnownSaid : Prop := batchKnownRow.holds Try.pinned (OpenSpec.ofChange batchKnownSpec)

/-- ITS FALSE NEIGHBOUR: 'it returns false'. Refute it at one input. -/
def batchKnownWrong : ChangeSpec := { name := "batchKnown", fn := fun _ => fun
  | [] => { results := [.lit (.bool false)], args := [] }
  | _ => none }
def BatchKnownWrongFalsely : Prop := batchKnownRow.holds Try.pinned (OpenSpec.ofChange batchKnownWrong)

/-- 'rilllaw12.BatchAdds': WHATEVER THE INPUT: true; the input reads as it did. -/
def batchAddsSpec : ChangeSpec := { name := "batchAdds", fn := fun _ => fun
  | [d1, d2, d3] => { results := [.lit (.bool true)], args := [d1, d2, d3] }
  | _ => none }
def batchAddsRow : OpenClaim := { program := "ythgdjgnbifakbaa", sum := "09908bbdec1b0f24f9df2b0a8ba122d985d221643707c4858bc2184f716ebf48", func := "rill/rilllaw12.BatchAdds", spec := "batchAdds", unfollowed := true, recurses := true, apart := false }
def BatchAddsSaid : Prop := batchAddsRow.holds Try.pinned (OpenSpec.ofChange batchAddsSpec)

/-- ITS FALSE NEIGHBOUR: 'it returns false'. Refute it at one input. -/
def batchAddsWrong : ChangeSpec := { name := "batchAdds", fn := fun _ => fun
  | [d1, d2, d3] => { results := [.lit (.bool false)], args := [d1, d2, d3] }
  | _ => none }
def BatchAddsWrongFalsely : Prop := batchAddsRow.holds Try.pinned (OpenSpec.ofChange batchAddsWrong)

/- THE SECOND FORM. 'bulk': how many values and letters a reading holds, each counted each time it is reached (what is shared counts as often as it is met; a slice's spare places count too). A statement '..UptoSaid' is the law's where the arguments, and the package variables that the reading takes, are together of bulk at most 1048576: NARROWER than '..Said'. Prove '..Said' where nothing that the law and all that it calls make is longer than what came in: it says more and counts as full. Else prove '..UptoSaid'. A law counts once. -/
mutual
def uptoBulk {H : Type} : DataW H → Nat
  | .lit (.string bytes) => bytes.length + 1
  | .lit _ => 1
  | .nil => 1
  | .ptr d => uptoBulk d + 1
  | .slice elems spare => uptoBulkAll elems + uptoBulkAll spare + 1
  | .agg parts => uptoBulkAll parts + 1
  | .iface _ d => uptoBulk d + 1
  | .map entries => uptoBulkEntries entries + 1
  | .held _ => 1
def uptoBulkAll {H : Type} : List (DataW H) → Nat
  | [] => 0
  | d :: r => uptoBulk d + uptoBulkAll r
def uptoBulkEntries {H : Type} : List (Lit × DataW H) → Nat
  | [] => 0
  | x :: r => uptoBulkEntry x + uptoBulkEntries r
def uptoBulkEntry {H : Type} : Lit × DataW H → Nat
  | (.string bytes, d) => bytes.length + uptoBulk d + 1
  | (_, d) => uptoBulk d + 1
 end
def uptoSmall : (H : Type) → List (DataW H) → Bool := fun _ ds => decide (uptoBulkAll ds ≤ 1048576)
def OpenSpec.upto (s : _root_.Go.ChangeSpec) : _root_.Go.OpenSpec := { _root_.Go.OpenSpec.ofChange s with cond := some uptoSmall }

/-- 'rilllaw09.PackPuts', WHERE WHAT IT READS IS OF BULK AT MOST 1048576: true; the input reads as it did. -/
def packPutsUptoRow : OpenClaim := { program := "ythgdjgnbifakbaa", sum := "09908bbdec1b0f24f9df2b0a8ba122d985d221643707c4858bc2184f716ebf48", func := "rill/rilllaw09.PackPuts", spec := "packPuts", unfollowed := true, recurses := true, apart := false, narrowed := true }
def PackPutsUptoSaid : Prop := packPutsUptoRow.holds Try.pinned (OpenSpec.upto packPutsSpec)

/-- 'rilllaw09.PackOnly', WHERE WHAT IT READS IS OF BULK AT MOST 1048576: true; the input reads as it did. -/
def packOnlyUptoRow : OpenClaim := { program := "ythgdjgnbifakbaa", sum := "09908bbdec1b0f24f9df2b0a8ba122d985d221643707c4858bc2184f716ebf48", func := "rill/rilllaw09.PackOnly", spec := "packOnly", unfollowed := true, recurses := true, apart := false, narrowed := true }
def PackOnlyUptoSaid : Prop := packOnlyUptoRow.holds Try.pinned (OpenSpec.upto packOnlySpec)

/-- 'rilllaw09.PackKnown', WHERE WHAT IT READS IS OF BULK AT MOST 1048576: true; the input reads as it did. -/
def packKnownUptoRow : OpenClaim := { program := "ythgdjgnbifakbaa", sum := "09908bbdec1b0f24f9df2b0a8ba122d985d221643707c4858bc2184f716ebf48", func := "rill/rilllaw09.PackKnown", spec := "packKnown", unfollowed := true, recurses := true, apart := false, narrowed := true }
def PackKnownUptoSaid : Prop := packKnownUptoRow.holds Try.pinned (OpenSpec.upto packKnownSpec)

/-- 'rilllaw09.PackReads', WHERE WHAT IT READS IS OF BULK AT MOST 1048576: true; the input reads as it did. -/
def packReadsUptoRow : OpenClaim := { program := "ythgdjgnbifakbaa", sum := "09908bbdec1b0f24f9df2b0a8ba122d985d221643707c4858bc2184f716ebf48", func := "rill/rilllaw09.PackReads", spec := "packReads", unfollowed := true, recurses := true, apart := false, narrowed := true }
def PackReadsUptoSaid : Prop := packReadsUptoRow.holds Try.pinned (OpenSpec.upto packReadsSpec)

/-- 'rilllaw09.PackBack', WHERE WHAT IT READS IS OF BULK AT MOST 1048576: true; the input reads as it did. -/
def packBackUptoRow : OpenClaim := { program := "ythgdjgnbifakbaa", sum := "09908bbdec1b0f24f9df2b0a8ba122d985d221643707c4858bc2184f716ebf48", func := "rill/rilllaw09.PackBack", spec := "packBack", unfollowed := true, recurses := true, apart := false, narrowed := true }
def PackBackUptoSaid : Prop := packBackUptoRow.holds Try.pinned (OpenSpec.upto packBackSpec)

/-- 'rilllaw09.PackCut', WHERE WHAT IT READS IS OF BULK AT MOST 1048576: true; the input reads as it did. -/
def packCutUptoRow : OpenClaim := { program := "ythgdjgnbifakbaa", sum := "09908bbdec1b0f24f9df2b0a8ba122d985d221643707c4858bc2184f716ebf48", func := "rill/rilllaw09.PackCut", spec := "packCut", unfollowed := true, recurses := true, apart := false, narrowed := true }
def PackCutUptoSaid : Prop := packCutUptoRow.holds Try.pinned (OpenSpec.upto packCutSpec)

/-- 'rilllaw12.BatchPuts', WHERE WHAT IT READS IS OF BULK AT MOST 1048576: true; the input reads as it did. -/
def batchPutsUptoRow : OpenClaim := { program := "ythgdjgnbifakbaa", sum := "09908bbdec1b0f24f9df2b0a8ba122d985d221643707c4858bc2184f716ebf48", func := "rill/rilllaw12.BatchPuts", spec := "batchPuts", unfollowed := true, recurses := true, apart := false, narrowed := true }
def BatchPutsUptoSaid : Prop := batchPutsUptoRow.holds Try.pinned (OpenSpec.upto batchPutsSpec)

/-- 'rilllaw12.BatchGets', WHERE WHAT IT READS IS OF BULK AT MOST 1048576: true; the input reads as it did. -/
def batchGetsUptoRow : OpenClaim := { program := "ythgdjgnbifakbaa", sum := "09908bbdec1b0f24f9df2b0a8ba122d985d221643707c4858bc2184f716ebf48", func := "rill/rilllaw12.BatchGets", spec := "batchGets", unfollowed := true, recurses := true, apart := false, narrowed := true }
def BatchGetsUptoSaid : Prop := batchGetsUptoRow.holds Try.pinned (OpenSpec.upto batchGetsSpec)

/-- 'rilllaw12.BatchBack', WHERE WHAT IT READS IS OF BULK AT MOST 1048576: true; the input reads as it did. -/
def batchBackUptoRow : OpenClaim := { program := "ythgdjgnbifakbaa", sum := "09908bbdec1b0f24f9df2b0a8ba122d985d221643707c4858bc2184f716ebf48", func := "rill/rilllaw12.BatchBack", spec := "batchBack", unfollowed := true, recurses := true, apart := false, narrowed := true }
def BatchBackUptoSaid : Prop := batchBackUptoRow.holds Try.pinned (OpenSpec.upto batchBackSpec)

/-- 'rilllaw12.BatchForms', WHERE WHAT IT READS IS OF BULK AT MOST 1048576: true; the input reads as it did. -/
def batchFormsUptoRow : OpenClaim := { program := "ythgdjgnbifakbaa", sum := "09908bbdec1b0f24f9df2b0a8ba122d985d221643707c4858bc2184f716ebf48", func := "rill/rilllaw12.BatchForms", spec := "batchForms", unfollowed := true, recurses := true, apart := false, narrowed := true }
def BatchFormsUptoSaid : Prop := batchFormsUptoRow.holds Try.pinned (OpenSpec.upto batchFormsSpec)

/-- 'rilllaw12.BatchPlain', WHERE WHAT IT READS IS OF BULK AT MOST 1048576: true; the input reads as it did. -/
def batchPlainUptoRow : OpenClaim := { program := "ythgdjgnbifakbaa", sum := "09908bbdec1b0f24f9df2b0a8ba122d985d221643707c4858bc2184f716ebf48", func := "rill/rilllaw12.BatchPlain", spec := "batchPlain", unfollowed := true, recurses := true, apart := false, narrowed := true }
def BatchPlainUptoSaid : Prop := batchPlainUptoRow.holds Try.pinned (OpenSpec.upto batchPlainSpec)

/-- 'rilllaw12.BatchKnown', WHERE WHAT IT READS IS OF BULK AT MOST 1048576: true; the input reads as it did. -/
def batchKnownUptoRow : OpenClaim := { program := "ythgdjgnbifakbaa", sum := "09908bbdec1b0f24f9df2b0a8ba122d985d221643707c4858bc2184f716ebf48", func := "rill/rilllaw12.BatchKnown", spec := "batchKnown", unfollowed := true, recurses := true, apart := false, narrowed := true }
def BatchKnownUptoSaid : Prop := batchKnownUptoRow.holds Try.pinned (OpenSpec.upto batchKnownSpec)

/-- 'rilllaw12.BatchAdds', WHERE WHAT IT READS IS OF BULK AT MOST 1048576: true; the input reads as it did. -/
def batchAddsUptoRow : OpenClaim := { program := "ythgdjgnbifakbaa", sum := "09908bbdec1b0f24f9df2b0a8ba122d985d221643707c4858bc2184f716ebf48", func := "rill/rilllaw12.BatchAdds", spec := "batchAdds", unfollowed := true, recurses := true, apart := false, narrowed := true }
def BatchAddsUptoSaid : Prop := batchAddsUptoRow.holds Try.pinned (OpenSpec.upto batchAddsSpec)

end Rows
end Go.Proofs.Ythgdjgnbifakbaa
