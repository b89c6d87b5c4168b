/-
  No cell of these rows narrows 'for every input' (looked for: loops, veiled, ifaces, maps, wideKeys, modest, calm, conditions, laid).
  DERIVED. THE GIVEN ROWS OF THIS SEAT. 5 by the template 'for every input the law returns true; each argument reads behind the call as it read before'; 0 by the template 'total and deterministic' (their statements: YthdcalneejhdgaaTotals.lean).
  GIVEN WITH THE SEED: the statements are not yours to turn. If you find one false, say at which input.
  Laid BY PROGRAM, IN A SANDBOX (cutbox-rows.mjs): the forced cells as the released guide's own fill.sh prints them over the translation dfc583afc610aa28… (all of the seat's roots in one cut). By AI agents, Wed Nov 11 2026. No macro, syntax, notation, axiom, sorry.
-/
import Derived.Test.YthdcalneejhdgaaChecked
import GoSem.Claim
import GoSem.ClaimJoined
import GoSem.ClaimMapViews
import Derived.JoinedTies
import Derived.KernelRfl
namespace Go.Proofs.Ythdcalneejhdgaa
/- THE CELL 'sum', in the pinned program and in every row, IS THE sha256 OF THE DUMP (.gsa) THAT YthdcalneejhdgaaProg.lean LOADS. Nothing in Lean hashes anything: it is a label: what it is worth is what the hold of that sum in a sandbox is worth. -/
noncomputable def Try.pinned : Pinned := { name := "ythdcalneejhdgaa", sum := "dfc583afc610aa28f50a47fb362e4e6ac4033d94f0a52969db12afe6c38de9c2", checked := Try.checked }
namespace Rows
def none {H : Type} : Left H := { results := [], args := [] }

/-- 'rilllaw17.ScoreOf': WHATEVER THE INPUT: true; the input reads as it did. -/
def scoreOfSpec : ChangeSpec := { name := "scoreOf", fn := fun _ => fun
  | [d1, d2, d3] => { results := [.lit (.bool true)], args := [d1, d2, d3] }
  | _ => none }
def scoreOfRow : OpenClaim := { program := "ythdcalneejhdgaa", sum := "dfc583afc610aa28f50a47fb362e4e6ac4033d94f0a52969db12afe6c38de9c2", func := "rill/rilllaw17.ScoreOf", spec := "scoreOf", unfollowed := true, recurses := true, apart := false }
def ScoreOfSaid : Prop := scoreOfRow.holds Try.pinned (OpenSpec.ofChange scoreOfSpec)

/-- ITS FALSE NEIGHBOUR: 'it returns false'. Refute it at one input. -/
def scoreOfWrong : ChangeSpec := { name := "scoreOf", fn := fun _ => fun
  | [d1, d2, d3] => { results := [.lit (.bool false)], args := [d1, d2, d3] }
  | _ => none }
def ScoreOfWrongFalsely : Prop := scoreOfRow.holds Try.pinned (OpenSpec.ofChange scoreOfWrong)

/-- 'rilllaw17.ScoreVictim': WHATEVER THE INPUT: true; the input reads as it did. -/
def scoreVictimSpec : ChangeSpec := { name := "scoreVictim", fn := fun _ => fun
  | [d1, d2] => { results := [.lit (.bool true)], args := [d1, d2] }
  | _ => none }
def scoreVictimRow : OpenClaim := { program := "ythdcalneejhdgaa", sum := "dfc583afc610aa28f50a47fb362e4e6ac4033d94f0a52969db12afe6c38de9c2", func := "rill/rilllaw17.ScoreVictim", spec := "scoreVictim", unfollowed := true, recurses := true, apart := false }
def ScoreVictimSaid : Prop := scoreVictimRow.holds Try.pinned (OpenSpec.ofChange scoreVictimSpec)

/-- ITS FALSE NEIGHBOUR: 'it returns false'. Refute it at one input. -/
def scoreVictimWrong : ChangeSpec := { name := "scoreVictim", fn := fun _ => fun
  | [d1, d2] => { results := [.lit (.bool false)], args := [d1, d2] }
  | _ => none }
def ScoreVictimWrongFalsely : Prop := scoreVictimRow.holds Try.pinned (OpenSpec.ofChange scoreVictimWrong)

/-- 'rilllaw17.ScoreBends': WHATEVER THE INPUT: true; the input reads as it did. -/
def scoreBendsSpec : ChangeSpec := { name := "scoreBends", fn := fun _ => fun
  | [d1, d2, d3, d4] => { results := [.lit (.bool true)], args := [d1, d2, d3, d4] }
  | _ => none }
def scoreBendsRow : OpenClaim := { program := "ythdcalneejhdgaa", sum := "dfc583afc610aa28f50a47fb362e4e6ac4033d94f0a52969db12afe6c38de9c2", func := "rill/rilllaw17.ScoreBends", spec := "scoreBends", unfollowed := true, recurses := true, apart := false }
def ScoreBendsSaid : Prop := scoreBendsRow.holds Try.pinned (OpenSpec.ofChange scoreBendsSpec)

/-- ITS FALSE NEIGHBOUR: 'it returns false'. Refute it at one input. -/
def scoreBendsWrong : ChangeSpec := { name := "scoreBends", fn := fun _ => fun
  | [d1, d2, d3, d4] => { results := [.lit (.bool false)], args := [d1, d2, d3, d4] }
  | _ => none }
def ScoreBendsWrongFalsely : Prop := scoreBendsRow.holds Try.pinned (OpenSpec.ofChange scoreBendsWrong)

/-- 'rilllaw17.ScoreKnown': WHATEVER THE INPUT: true; the input reads as it did. -/
def scoreKnownSpec : ChangeSpec := { name := "scoreKnown", fn := fun _ => fun
  | [] => { results := [.lit (.bool true)], args := [] }
  | _ => none }
def scoreKnownRow : OpenClaim := { program := "ythdcalneejhdgaa", sum := "dfc583afc610aa28f50a47fb362e4e6ac4033d94f0a52969db12afe6c38de9c2", func := "rill/rilllaw17.ScoreKnown", spec := "scoreKnown", unfollowed := true, recurses := true, apart := false }
def ScoreKnownSaid : Prop := scoreKnownRow.holds Try.pinned (OpenSpec.ofChange scoreKnownSpec)

/-- ITS FALSE NEIGHBOUR: 'it returns false'. Refute it at one input. -/
def scoreKnownWrong : ChangeSpec := { name := "scoreKnown", fn := fun _ => fun
  | [] => { results := [.lit (.bool false)], args := [] }
  | _ => none }
def ScoreKnownWrongFalsely : Prop := scoreKnownRow.holds Try.pinned (OpenSpec.ofChange scoreKnownWrong)

/-- 'rilllaw17.ScoreMore': WHATEVER THE INPUT: true; the input reads as it did. -/
def scoreMoreSpec : ChangeSpec := { name := "scoreMore", fn := fun _ => fun
  | [d1, d2, d3] => { results := [.lit (.bool true)], args := [d1, d2, d3] }
  | _ => none }
def scoreMoreRow : OpenClaim := { program := "ythdcalneejhdgaa", sum := "dfc583afc610aa28f50a47fb362e4e6ac4033d94f0a52969db12afe6c38de9c2", func := "rill/rilllaw17.ScoreMore", spec := "scoreMore", unfollowed := true, recurses := true, apart := false }
def ScoreMoreSaid : Prop := scoreMoreRow.holds Try.pinned (OpenSpec.ofChange scoreMoreSpec)

/-- ITS FALSE NEIGHBOUR: 'it returns false'. Refute it at one input. -/
def scoreMoreWrong : ChangeSpec := { name := "scoreMore", fn := fun _ => fun
  | [d1, d2, d3] => { results := [.lit (.bool false)], args := [d1, d2, d3] }
  | _ => none }
def ScoreMoreWrongFalsely : Prop := scoreMoreRow.holds Try.pinned (OpenSpec.ofChange scoreMoreWrong)

/- THE SECOND FORM. 'bulk': how many values and letters a reading holds, each counted each time it is reached (what is shared counts as often as it is met; a slice's spare places count too). A statement '..UptoSaid' is the law's where the arguments, and the package variables that the reading takes, are together of bulk at most 1048576: NARROWER than '..Said'. Prove '..Said' where nothing that the law and all that it calls make is longer than what came in: it says more and counts as full. Else prove '..UptoSaid'. A law counts once. -/
mutual
def uptoBulk {H : Type} : DataW H → Nat
  | .lit (.string bytes) => bytes.length + 1
  | .lit _ => 1
  | .nil => 1
  | .ptr d => uptoBulk d + 1
  | .slice elems spare => uptoBulkAll elems + uptoBulkAll spare + 1
  | .agg parts => uptoBulkAll parts + 1
  | .iface _ d => uptoBulk d + 1
  | .map entries => uptoBulkEntries entries + 1
  | .held _ => 1
def uptoBulkAll {H : Type} : List (DataW H) → Nat
  | [] => 0
  | d :: r => uptoBulk d + uptoBulkAll r
def uptoBulkEntries {H : Type} : List (Lit × DataW H) → Nat
  | [] => 0
  | x :: r => uptoBulkEntry x + uptoBulkEntries r
def uptoBulkEntry {H : Type} : Lit × DataW H → Nat
  | (.string bytes, d) => bytes.length + uptoBulk d + 1
  | (_, d) => uptoBulk d + 1
 end
def uptoSmall : (H : Type) → List (DataW H) → Bool := fun _ ds => decide (uptoBulkAll ds ≤ 1048576)
def OpenSpec.upto (s : _root_.Go.ChangeSpec) : _root_.Go.OpenSpec := { _root_.Go.OpenSpec.ofChange s with cond := some uptoSmall }

/-- 'rilllaw17.ScoreOf', WHERE WHAT IT READS IS OF BULK AT MOST 1048576: true; the input reads as it did. -/
def scoreOfUptoRow : OpenClaim := { program := "ythdcalneejhdgaa", sum := "dfc583afc610aa28f50a47fb362e4e6ac4033d94f0a52969db12afe6c38de9c2", func := "rill/rilllaw17.ScoreOf", spec := "scoreOf", unfollowed := true, recurses := true, apart := false, narrowed := true }
def ScoreOfUptoSaid : Prop := scoreOfUptoRow.holds Try.pinned (OpenSpec.upto scoreOfSpec)

/-- 'rilllaw17.ScoreVictim', WHERE WHAT IT READS IS OF BULK AT MOST 1048576: true; the input reads as it did. -/
def scoreVictimUptoRow : OpenClaim := { program := "ythdcalneejhdgaa", sum := "dfc583afc610aa28f50a47fb362e4e6ac4033d94f0a52969db12afe6c38de9c2", func := "rill/rilllaw17.ScoreVictim", spec := "scoreVictim", unfollowed := true, recurses := true, apart := false, narrowed := true }
def ScoreVictimUptoSaid : Prop := scoreVictimUptoRow.holds Try.pinned (OpenSpec.upto scoreVictimSpec)

/-- 'rilllaw17.ScoreBends', WHERE WHAT IT READS IS OF BULK AT MOST 1048576: true; the input reads as it did. -/
def scoreBendsUptoRow : OpenClaim := { program := "ythdcalneejhdgaa", sum := "dfc583afc610aa28f50a47fb362e4e6ac4033d94f0a52969db12afe6c38de9c2", func := "rill/rilllaw17.ScoreBends", spec := "scoreBends", unfollowed := true, recurses := true, apart := false, narrowed := true }
def ScoreBendsUptoSaid : Prop := scoreBendsUptoRow.holds Try.pinned (OpenSpec.upto scoreBendsSpec)

/-- 'rilllaw17.ScoreKnown', WHERE WHAT IT READS IS OF BULK AT MOST 1048576: true; the input reads as it did. -/
def scoreKnownUptoRow : OpenClaim := { program := "ythdcalneejhdgaa", sum := "dfc583afc610aa28f50a47fb362e4e6ac4033d94f0a52969db12afe6c38de9c2", func := "rill/rilllaw17.ScoreKnown", spec := "scoreKnown", unfollowed := true, recurses := true, apart := false, narrowed := true }
def ScoreKnownUptoSaid : Prop := scoreKnownUptoRow.holds Try.pinned (OpenSpec.upto scoreKnownSpec)

/-- 'rilllaw17.ScoreMore', WHERE WHAT IT READS IS OF BULK AT MOST 1048576: true; the input reads as it did. -/
def scoreMoreUptoRow : OpenClaim := { program := "ythdcalneejhdgaa", sum := "dfc583afc610aa28f50a47fb362e4e6ac4033d94f0a52969db12afe6c38de9c2", func := "rill/rilllaw17.ScoreMore", spec := "scoreMore", unfollowed := true, recurses := true, apart := false, narrowed := true }
def ScoreMoreUptoSaid : Prop := scoreMoreUptoRow.holds Try.pinned (OpenSpec.upto scoreMoreSpec)

end Rows
end Go.Proofs.Ythdcalneejhdgaa
