/-
  NARROWER THAN 'FOR EVERY INPUT', by the rows' own cells (each row's printed sentence says how): ShaOf: laid · ShaAdds: laid · ShaPieces: laid · ShaKnown: laid · ShaApart: laid · MacSums: laid · MacKeys: laid · MacInner: laid · MacDerives: laid · MacSame: laid · MacKnown: laid.
  DERIVED. THE GIVEN ROWS OF THIS SEAT. 11 by the template 'for every input the law returns true; each argument reads behind the call as it read before'; 0 by the template 'total and deterministic' (their statements: YtbnbncnmhhioeaaDoorTotals.lean).
  GIVEN WITH THE SEED: the statements are not yours to turn. If you find one false, say at which input.
  Laid BY PROGRAM, IN A SANDBOX (cutbox-rows.mjs): the forced cells as the released guide's own fill.sh prints them over the translation 48d68fccbc51991b… (all of the seat's roots in one cut). By AI agents, Wed Nov 11 2026. No macro, syntax, notation, axiom, sorry.
-/
import Derived.Test.YtbnbncnmhhioeaaDoorChecked
import GoSem.Claim
import GoSem.ClaimJoined
import GoSem.ClaimMapViews
import Derived.JoinedTies
import Derived.KernelRfl
namespace Go.Proofs.YtbnbncnmhhioeaaDoor
/- THE CELL 'sum', in the pinned program and in every row, IS THE sha256 OF THE DUMP (.gsa) THAT YtbnbncnmhhioeaaDoorProg.lean LOADS. Nothing in Lean hashes anything: it is a label: what it is worth is what the hold of that sum in a sandbox is worth. -/
noncomputable def Tryd.pinned : Pinned := { name := "ytbnbncnmhhioeaadoor", sum := "48d68fccbc51991b9ea63b318b1903ff35d8ce286d9652b9ce144bf0e00381c3", checked := Tryd.checked }
namespace Rows
def none {H : Type} : Left H := { results := [], args := [] }

/- WHAT THE LISTED PACKAGE-LEVEL VARIABLES READ AS WHEN THE CALL BEGINS. Each datum BY PROGRAM (the guide's laid-datum.mjs) off the statement by which the dump's own 'gosem.cut.vars' lays the variable. In a bare row this is a premise. The card (YtbnbncnmhhioeaaDoorCards.lean) ties it to the program's text. -/
def laid_rill_rillref01_K {H : Type} : DataW H := .agg [.lit (.int .u32 1116352408), .lit (.int .u32 1899447441), .lit (.int .u32 3049323471), .lit (.int .u32 3921009573), .lit (.int .u32 961987163), .lit (.int .u32 1508970993), .lit (.int .u32 2453635748), .lit (.int .u32 2870763221), .lit (.int .u32 3624381080), .lit (.int .u32 310598401), .lit (.int .u32 607225278), .lit (.int .u32 1426881987), .lit (.int .u32 1925078388), .lit (.int .u32 2162078206), .lit (.int .u32 2614888103), .lit (.int .u32 3248222580), .lit (.int .u32 3835390401), .lit (.int .u32 4022224774), .lit (.int .u32 264347078), .lit (.int .u32 604807628), .lit (.int .u32 770255983), .lit (.int .u32 1249150122), .lit (.int .u32 1555081692), .lit (.int .u32 1996064986), .lit (.int .u32 2554220882), .lit (.int .u32 2821834349), .lit (.int .u32 2952996808), .lit (.int .u32 3210313671), .lit (.int .u32 3336571891), .lit (.int .u32 3584528711), .lit (.int .u32 113926993), .lit (.int .u32 338241895), .lit (.int .u32 666307205), .lit (.int .u32 773529912), .lit (.int .u32 1294757372), .lit (.int .u32 1396182291), .lit (.int .u32 1695183700), .lit (.int .u32 1986661051), .lit (.int .u32 2177026350), .lit (.int .u32 2456956037), .lit (.int .u32 2730485921), .lit (.int .u32 2820302411), .lit (.int .u32 3259730800), .lit (.int .u32 3345764771), .lit (.int .u32 3516065817), .lit (.int .u32 3600352804), .lit (.int .u32 4094571909), .lit (.int .u32 275423344), .lit (.int .u32 430227734), .lit (.int .u32 506948616), .lit (.int .u32 659060556), .lit (.int .u32 883997877), .lit (.int .u32 958139571), .lit (.int .u32 1322822218), .lit (.int .u32 1537002063), .lit (.int .u32 1747873779), .lit (.int .u32 1955562222), .lit (.int .u32 2024104815), .lit (.int .u32 2227730452), .lit (.int .u32 2361852424), .lit (.int .u32 2428436474), .lit (.int .u32 2756734187), .lit (.int .u32 3204031479), .lit (.int .u32 3329325298)]
def laid_rill_sha_k {H : Type} : DataW H := .agg [.lit (.int .u32 1116352408), .lit (.int .u32 1899447441), .lit (.int .u32 3049323471), .lit (.int .u32 3921009573), .lit (.int .u32 961987163), .lit (.int .u32 1508970993), .lit (.int .u32 2453635748), .lit (.int .u32 2870763221), .lit (.int .u32 3624381080), .lit (.int .u32 310598401), .lit (.int .u32 607225278), .lit (.int .u32 1426881987), .lit (.int .u32 1925078388), .lit (.int .u32 2162078206), .lit (.int .u32 2614888103), .lit (.int .u32 3248222580), .lit (.int .u32 3835390401), .lit (.int .u32 4022224774), .lit (.int .u32 264347078), .lit (.int .u32 604807628), .lit (.int .u32 770255983), .lit (.int .u32 1249150122), .lit (.int .u32 1555081692), .lit (.int .u32 1996064986), .lit (.int .u32 2554220882), .lit (.int .u32 2821834349), .lit (.int .u32 2952996808), .lit (.int .u32 3210313671), .lit (.int .u32 3336571891), .lit (.int .u32 3584528711), .lit (.int .u32 113926993), .lit (.int .u32 338241895), .lit (.int .u32 666307205), .lit (.int .u32 773529912), .lit (.int .u32 1294757372), .lit (.int .u32 1396182291), .lit (.int .u32 1695183700), .lit (.int .u32 1986661051), .lit (.int .u32 2177026350), .lit (.int .u32 2456956037), .lit (.int .u32 2730485921), .lit (.int .u32 2820302411), .lit (.int .u32 3259730800), .lit (.int .u32 3345764771), .lit (.int .u32 3516065817), .lit (.int .u32 3600352804), .lit (.int .u32 4094571909), .lit (.int .u32 275423344), .lit (.int .u32 430227734), .lit (.int .u32 506948616), .lit (.int .u32 659060556), .lit (.int .u32 883997877), .lit (.int .u32 958139571), .lit (.int .u32 1322822218), .lit (.int .u32 1537002063), .lit (.int .u32 1747873779), .lit (.int .u32 1955562222), .lit (.int .u32 2024104815), .lit (.int .u32 2227730452), .lit (.int .u32 2361852424), .lit (.int .u32 2428436474), .lit (.int .u32 2756734187), .lit (.int .u32 3204031479), .lit (.int .u32 3329325298)]

/-- 'rilllaw01.ShaOf': WHATEVER THE INPUT: true; the input reads as it did. -/
def shaOfSpec : ChangeSpec := { name := "shaOf", fn := fun _ => fun
  | [d] => { results := [.lit (.bool true)], args := [d] }
  | _ => none }
def shaOfRow : OpenClaim := { program := "ytbnbncnmhhioeaadoor", sum := "48d68fccbc51991b9ea63b318b1903ff35d8ce286d9652b9ce144bf0e00381c3", func := "rill/rilllaw01.ShaOf", spec := "shaOf", named := ["rill/sha.k", "rill/rillref01.K"], apart := false, laid := [("rill/rillref01.K", laid_rill_rillref01_K), ("rill/sha.k", laid_rill_sha_k)] }
def ShaOfSaid : Prop := shaOfRow.holds Tryd.pinned (OpenSpec.ofChange shaOfSpec)

/-- ITS FALSE NEIGHBOUR: 'it returns false'. Refute it at one input. -/
def shaOfWrong : ChangeSpec := { name := "shaOf", fn := fun _ => fun
  | [d] => { results := [.lit (.bool false)], args := [d] }
  | _ => none }
def ShaOfWrongFalsely : Prop := shaOfRow.holds Tryd.pinned (OpenSpec.ofChange shaOfWrong)

/-- 'rilllaw01.ShaAdds': WHATEVER THE INPUT: true; the input reads as it did. -/
def shaAddsSpec : ChangeSpec := { name := "shaAdds", fn := fun _ => fun
  | [d] => { results := [.lit (.bool true)], args := [d] }
  | _ => none }
def shaAddsRow : OpenClaim := { program := "ytbnbncnmhhioeaadoor", sum := "48d68fccbc51991b9ea63b318b1903ff35d8ce286d9652b9ce144bf0e00381c3", func := "rill/rilllaw01.ShaAdds", spec := "shaAdds", named := ["rill/sha.k", "rill/rillref01.K"], apart := false, laid := [("rill/rillref01.K", laid_rill_rillref01_K), ("rill/sha.k", laid_rill_sha_k)] }
def ShaAddsSaid : Prop := shaAddsRow.holds Tryd.pinned (OpenSpec.ofChange shaAddsSpec)

/-- ITS FALSE NEIGHBOUR: 'it returns false'. Refute it at one input. -/
def shaAddsWrong : ChangeSpec := { name := "shaAdds", fn := fun _ => fun
  | [d] => { results := [.lit (.bool false)], args := [d] }
  | _ => none }
def ShaAddsWrongFalsely : Prop := shaAddsRow.holds Tryd.pinned (OpenSpec.ofChange shaAddsWrong)

/-- 'rilllaw01.ShaPieces': WHATEVER THE INPUT: true; the input reads as it did. -/
def shaPiecesSpec : ChangeSpec := { name := "shaPieces", fn := fun _ => fun
  | [d1, d2, d3] => { results := [.lit (.bool true)], args := [d1, d2, d3] }
  | _ => none }
def shaPiecesRow : OpenClaim := { program := "ytbnbncnmhhioeaadoor", sum := "48d68fccbc51991b9ea63b318b1903ff35d8ce286d9652b9ce144bf0e00381c3", func := "rill/rilllaw01.ShaPieces", spec := "shaPieces", named := ["rill/sha.k"], apart := false, laid := [("rill/sha.k", laid_rill_sha_k)] }
def ShaPiecesSaid : Prop := shaPiecesRow.holds Tryd.pinned (OpenSpec.ofChange shaPiecesSpec)

/-- ITS FALSE NEIGHBOUR: 'it returns false'. Refute it at one input. -/
def shaPiecesWrong : ChangeSpec := { name := "shaPieces", fn := fun _ => fun
  | [d1, d2, d3] => { results := [.lit (.bool false)], args := [d1, d2, d3] }
  | _ => none }
def ShaPiecesWrongFalsely : Prop := shaPiecesRow.holds Tryd.pinned (OpenSpec.ofChange shaPiecesWrong)

/-- 'rilllaw01.ShaKnown': WHATEVER THE INPUT: true; the input reads as it did. -/
def shaKnownSpec : ChangeSpec := { name := "shaKnown", fn := fun _ => fun
  | [] => { results := [.lit (.bool true)], args := [] }
  | _ => none }
def shaKnownRow : OpenClaim := { program := "ytbnbncnmhhioeaadoor", sum := "48d68fccbc51991b9ea63b318b1903ff35d8ce286d9652b9ce144bf0e00381c3", func := "rill/rilllaw01.ShaKnown", spec := "shaKnown", named := ["rill/sha.k", "rill/rillref01.K"], apart := false, laid := [("rill/rillref01.K", laid_rill_rillref01_K), ("rill/sha.k", laid_rill_sha_k)] }
def ShaKnownSaid : Prop := shaKnownRow.holds Tryd.pinned (OpenSpec.ofChange shaKnownSpec)

/-- ITS FALSE NEIGHBOUR: 'it returns false'. Refute it at one input. -/
def shaKnownWrong : ChangeSpec := { name := "shaKnown", fn := fun _ => fun
  | [] => { results := [.lit (.bool false)], args := [] }
  | _ => none }
def ShaKnownWrongFalsely : Prop := shaKnownRow.holds Tryd.pinned (OpenSpec.ofChange shaKnownWrong)

/-- 'rilllaw01.ShaApart': WHATEVER THE INPUT: true; the input reads as it did. -/
def shaApartSpec : ChangeSpec := { name := "shaApart", fn := fun _ => fun
  | [d] => { results := [.lit (.bool true)], args := [d] }
  | _ => none }
def shaApartRow : OpenClaim := { program := "ytbnbncnmhhioeaadoor", sum := "48d68fccbc51991b9ea63b318b1903ff35d8ce286d9652b9ce144bf0e00381c3", func := "rill/rilllaw01.ShaApart", spec := "shaApart", named := ["rill/sha.k"], apart := false, laid := [("rill/sha.k", laid_rill_sha_k)] }
def ShaApartSaid : Prop := shaApartRow.holds Tryd.pinned (OpenSpec.ofChange shaApartSpec)

/-- ITS FALSE NEIGHBOUR: 'it returns false'. Refute it at one input. -/
def shaApartWrong : ChangeSpec := { name := "shaApart", fn := fun _ => fun
  | [d] => { results := [.lit (.bool false)], args := [d] }
  | _ => none }
def ShaApartWrongFalsely : Prop := shaApartRow.holds Tryd.pinned (OpenSpec.ofChange shaApartWrong)

/-- 'rilllaw02.MacSums': WHATEVER THE INPUT: true; the input reads as it did. -/
def macSumsSpec : ChangeSpec := { name := "macSums", fn := fun _ => fun
  | [d1, d2] => { results := [.lit (.bool true)], args := [d1, d2] }
  | _ => none }
def macSumsRow : OpenClaim := { program := "ytbnbncnmhhioeaadoor", sum := "48d68fccbc51991b9ea63b318b1903ff35d8ce286d9652b9ce144bf0e00381c3", func := "rill/rilllaw02.MacSums", spec := "macSums", named := ["rill/sha.k", "rill/rillref01.K"], apart := false, laid := [("rill/rillref01.K", laid_rill_rillref01_K), ("rill/sha.k", laid_rill_sha_k)] }
def MacSumsSaid : Prop := macSumsRow.holds Tryd.pinned (OpenSpec.ofChange macSumsSpec)

/-- ITS FALSE NEIGHBOUR: 'it returns false'. Refute it at one input. -/
def macSumsWrong : ChangeSpec := { name := "macSums", fn := fun _ => fun
  | [d1, d2] => { results := [.lit (.bool false)], args := [d1, d2] }
  | _ => none }
def MacSumsWrongFalsely : Prop := macSumsRow.holds Tryd.pinned (OpenSpec.ofChange macSumsWrong)

/-- 'rilllaw02.MacKeys': WHATEVER THE INPUT: true; the input reads as it did. -/
def macKeysSpec : ChangeSpec := { name := "macKeys", fn := fun _ => fun
  | [d1, d2, d3] => { results := [.lit (.bool true)], args := [d1, d2, d3] }
  | _ => none }
def macKeysRow : OpenClaim := { program := "ytbnbncnmhhioeaadoor", sum := "48d68fccbc51991b9ea63b318b1903ff35d8ce286d9652b9ce144bf0e00381c3", func := "rill/rilllaw02.MacKeys", spec := "macKeys", named := ["rill/sha.k"], apart := false, laid := [("rill/sha.k", laid_rill_sha_k)] }
def MacKeysSaid : Prop := macKeysRow.holds Tryd.pinned (OpenSpec.ofChange macKeysSpec)

/-- ITS FALSE NEIGHBOUR: 'it returns false'. Refute it at one input. -/
def macKeysWrong : ChangeSpec := { name := "macKeys", fn := fun _ => fun
  | [d1, d2, d3] => { results := [.lit (.bool false)], args := [d1, d2, d3] }
  | _ => none }
def MacKeysWrongFalsely : Prop := macKeysRow.holds Tryd.pinned (OpenSpec.ofChange macKeysWrong)

/-- 'rilllaw02.MacInner': WHATEVER THE INPUT: true; the input reads as it did. -/
def macInnerSpec : ChangeSpec := { name := "macInner", fn := fun _ => fun
  | [d1, d2, d3] => { results := [.lit (.bool true)], args := [d1, d2, d3] }
  | _ => none }
def macInnerRow : OpenClaim := { program := "ytbnbncnmhhioeaadoor", sum := "48d68fccbc51991b9ea63b318b1903ff35d8ce286d9652b9ce144bf0e00381c3", func := "rill/rilllaw02.MacInner", spec := "macInner", named := ["rill/sha.k"], apart := false, laid := [("rill/sha.k", laid_rill_sha_k)] }
def MacInnerSaid : Prop := macInnerRow.holds Tryd.pinned (OpenSpec.ofChange macInnerSpec)

/-- ITS FALSE NEIGHBOUR: 'it returns false'. Refute it at one input. -/
def macInnerWrong : ChangeSpec := { name := "macInner", fn := fun _ => fun
  | [d1, d2, d3] => { results := [.lit (.bool false)], args := [d1, d2, d3] }
  | _ => none }
def MacInnerWrongFalsely : Prop := macInnerRow.holds Tryd.pinned (OpenSpec.ofChange macInnerWrong)

/-- 'rilllaw02.MacDerives': WHATEVER THE INPUT: true; the input reads as it did. -/
def macDerivesSpec : ChangeSpec := { name := "macDerives", fn := fun _ => fun
  | [d1, d2] => { results := [.lit (.bool true)], args := [d1, d2] }
  | _ => none }
def macDerivesRow : OpenClaim := { program := "ytbnbncnmhhioeaadoor", sum := "48d68fccbc51991b9ea63b318b1903ff35d8ce286d9652b9ce144bf0e00381c3", func := "rill/rilllaw02.MacDerives", spec := "macDerives", named := ["rill/sha.k", "rill/rillref01.K"], apart := false, laid := [("rill/rillref01.K", laid_rill_rillref01_K), ("rill/sha.k", laid_rill_sha_k)] }
def MacDerivesSaid : Prop := macDerivesRow.holds Tryd.pinned (OpenSpec.ofChange macDerivesSpec)

/-- ITS FALSE NEIGHBOUR: 'it returns false'. Refute it at one input. -/
def macDerivesWrong : ChangeSpec := { name := "macDerives", fn := fun _ => fun
  | [d1, d2] => { results := [.lit (.bool false)], args := [d1, d2] }
  | _ => none }
def MacDerivesWrongFalsely : Prop := macDerivesRow.holds Tryd.pinned (OpenSpec.ofChange macDerivesWrong)

/-- 'rilllaw02.MacSame': WHATEVER THE INPUT: true; the input reads as it did. -/
def macSameSpec : ChangeSpec := { name := "macSame", fn := fun _ => fun
  | [d1, d2, d3, d4] => { results := [.lit (.bool true)], args := [d1, d2, d3, d4] }
  | _ => none }
def macSameRow : OpenClaim := { program := "ytbnbncnmhhioeaadoor", sum := "48d68fccbc51991b9ea63b318b1903ff35d8ce286d9652b9ce144bf0e00381c3", func := "rill/rilllaw02.MacSame", spec := "macSame", named := ["rill/sha.k"], apart := false, laid := [("rill/sha.k", laid_rill_sha_k)] }
def MacSameSaid : Prop := macSameRow.holds Tryd.pinned (OpenSpec.ofChange macSameSpec)

/-- ITS FALSE NEIGHBOUR: 'it returns false'. Refute it at one input. -/
def macSameWrong : ChangeSpec := { name := "macSame", fn := fun _ => fun
  | [d1, d2, d3, d4] => { results := [.lit (.bool false)], args := [d1, d2, d3, d4] }
  | _ => none }
def MacSameWrongFalsely : Prop := macSameRow.holds Tryd.pinned (OpenSpec.ofChange macSameWrong)

/-- 'rilllaw02.MacKnown': WHATEVER THE INPUT: true; the input reads as it did. -/
def macKnownSpec : ChangeSpec := { name := "macKnown", fn := fun _ => fun
  | [] => { results := [.lit (.bool true)], args := [] }
  | _ => none }
def macKnownRow : OpenClaim := { program := "ytbnbncnmhhioeaadoor", sum := "48d68fccbc51991b9ea63b318b1903ff35d8ce286d9652b9ce144bf0e00381c3", func := "rill/rilllaw02.MacKnown", spec := "macKnown", named := ["rill/sha.k", "rill/rillref01.K"], apart := false, laid := [("rill/rillref01.K", laid_rill_rillref01_K), ("rill/sha.k", laid_rill_sha_k)] }
def MacKnownSaid : Prop := macKnownRow.holds Tryd.pinned (OpenSpec.ofChange macKnownSpec)

/-- ITS FALSE NEIGHBOUR: 'it returns false'. Refute it at one input. -/
def macKnownWrong : ChangeSpec := { name := "macKnown", fn := fun _ => fun
  | [] => { results := [.lit (.bool false)], args := [] }
  | _ => none }
def MacKnownWrongFalsely : Prop := macKnownRow.holds Tryd.pinned (OpenSpec.ofChange macKnownWrong)

/- THE SECOND FORM. 'bulk': how many values and letters a reading holds, each counted each time it is reached (what is shared counts as often as it is met; a slice's spare places count too). A statement '..UptoSaid' is the law's where the arguments, and the package variables that the reading takes, are together of bulk at most 1048576: NARROWER than '..Said'. Prove '..Said' where nothing that the law and all that it calls make is longer than what came in: it says more and counts as full. Else prove '..UptoSaid'. A law counts once. -/
mutual
def uptoBulk {H : Type} : DataW H → Nat
  | .lit (.string bytes) => bytes.length + 1
  | .lit _ => 1
  | .nil => 1
  | .ptr d => uptoBulk d + 1
  | .slice elems spare => uptoBulkAll elems + uptoBulkAll spare + 1
  | .agg parts => uptoBulkAll parts + 1
  | .iface _ d => uptoBulk d + 1
  | .map entries => uptoBulkEntries entries + 1
  | .held _ => 1
def uptoBulkAll {H : Type} : List (DataW H) → Nat
  | [] => 0
  | d :: r => uptoBulk d + uptoBulkAll r
def uptoBulkEntries {H : Type} : List (Lit × DataW H) → Nat
  | [] => 0
  | x :: r => uptoBulkEntry x + uptoBulkEntries r
def uptoBulkEntry {H : Type} : Lit × DataW H → Nat
  | (.string bytes, d) => bytes.length + uptoBulk d + 1
  | (_, d) => uptoBulk d + 1
 end
def uptoSmall : (H : Type) → List (DataW H) → Bool := fun _ ds => decide (uptoBulkAll ds ≤ 1048576)
def OpenSpec.upto (s : _root_.Go.ChangeSpec) : _root_.Go.OpenSpec := { _root_.Go.OpenSpec.ofChange s with cond := some uptoSmall }

/-- 'rilllaw01.ShaOf', WHERE WHAT IT READS IS OF BULK AT MOST 1048576: true; the input reads as it did. -/
def shaOfUptoRow : OpenClaim := { program := "ytbnbncnmhhioeaadoor", sum := "48d68fccbc51991b9ea63b318b1903ff35d8ce286d9652b9ce144bf0e00381c3", func := "rill/rilllaw01.ShaOf", spec := "shaOf", named := ["rill/sha.k", "rill/rillref01.K"], apart := false, laid := [("rill/rillref01.K", laid_rill_rillref01_K), ("rill/sha.k", laid_rill_sha_k)], narrowed := true }
def ShaOfUptoSaid : Prop := shaOfUptoRow.holds Tryd.pinned (OpenSpec.upto shaOfSpec)

/-- 'rilllaw01.ShaAdds', WHERE WHAT IT READS IS OF BULK AT MOST 1048576: true; the input reads as it did. -/
def shaAddsUptoRow : OpenClaim := { program := "ytbnbncnmhhioeaadoor", sum := "48d68fccbc51991b9ea63b318b1903ff35d8ce286d9652b9ce144bf0e00381c3", func := "rill/rilllaw01.ShaAdds", spec := "shaAdds", named := ["rill/sha.k", "rill/rillref01.K"], apart := false, laid := [("rill/rillref01.K", laid_rill_rillref01_K), ("rill/sha.k", laid_rill_sha_k)], narrowed := true }
def ShaAddsUptoSaid : Prop := shaAddsUptoRow.holds Tryd.pinned (OpenSpec.upto shaAddsSpec)

/-- 'rilllaw01.ShaPieces', WHERE WHAT IT READS IS OF BULK AT MOST 1048576: true; the input reads as it did. -/
def shaPiecesUptoRow : OpenClaim := { program := "ytbnbncnmhhioeaadoor", sum := "48d68fccbc51991b9ea63b318b1903ff35d8ce286d9652b9ce144bf0e00381c3", func := "rill/rilllaw01.ShaPieces", spec := "shaPieces", named := ["rill/sha.k"], apart := false, laid := [("rill/sha.k", laid_rill_sha_k)], narrowed := true }
def ShaPiecesUptoSaid : Prop := shaPiecesUptoRow.holds Tryd.pinned (OpenSpec.upto shaPiecesSpec)

/-- 'rilllaw01.ShaKnown', WHERE WHAT IT READS IS OF BULK AT MOST 1048576: true; the input reads as it did. -/
def shaKnownUptoRow : OpenClaim := { program := "ytbnbncnmhhioeaadoor", sum := "48d68fccbc51991b9ea63b318b1903ff35d8ce286d9652b9ce144bf0e00381c3", func := "rill/rilllaw01.ShaKnown", spec := "shaKnown", named := ["rill/sha.k", "rill/rillref01.K"], apart := false, laid := [("rill/rillref01.K", laid_rill_rillref01_K), ("rill/sha.k", laid_rill_sha_k)], narrowed := true }
def ShaKnownUptoSaid : Prop := shaKnownUptoRow.holds Tryd.pinned (OpenSpec.upto shaKnownSpec)

/-- 'rilllaw01.ShaApart', WHERE WHAT IT READS IS OF BULK AT MOST 1048576: true; the input reads as it did. -/
def shaApartUptoRow : OpenClaim := { program := "ytbnbncnmhhioeaadoor", sum := "48d68fccbc51991b9ea63b318b1903ff35d8ce286d9652b9ce144bf0e00381c3", func := "rill/rilllaw01.ShaApart", spec := "shaApart", named := ["rill/sha.k"], apart := false, laid := [("rill/sha.k", laid_rill_sha_k)], narrowed := true }
def ShaApartUptoSaid : Prop := shaApartUptoRow.holds Tryd.pinned (OpenSpec.upto shaApartSpec)

/-- 'rilllaw02.MacSums', WHERE WHAT IT READS IS OF BULK AT MOST 1048576: true; the input reads as it did. -/
def macSumsUptoRow : OpenClaim := { program := "ytbnbncnmhhioeaadoor", sum := "48d68fccbc51991b9ea63b318b1903ff35d8ce286d9652b9ce144bf0e00381c3", func := "rill/rilllaw02.MacSums", spec := "macSums", named := ["rill/sha.k", "rill/rillref01.K"], apart := false, laid := [("rill/rillref01.K", laid_rill_rillref01_K), ("rill/sha.k", laid_rill_sha_k)], narrowed := true }
def MacSumsUptoSaid : Prop := macSumsUptoRow.holds Tryd.pinned (OpenSpec.upto macSumsSpec)

/-- 'rilllaw02.MacKeys', WHERE WHAT IT READS IS OF BULK AT MOST 1048576: true; the input reads as it did. -/
def macKeysUptoRow : OpenClaim := { program := "ytbnbncnmhhioeaadoor", sum := "48d68fccbc51991b9ea63b318b1903ff35d8ce286d9652b9ce144bf0e00381c3", func := "rill/rilllaw02.MacKeys", spec := "macKeys", named := ["rill/sha.k"], apart := false, laid := [("rill/sha.k", laid_rill_sha_k)], narrowed := true }
def MacKeysUptoSaid : Prop := macKeysUptoRow.holds Tryd.pinned (OpenSpec.upto macKeysSpec)

/-- 'rilllaw02.MacInner', WHERE WHAT IT READS IS OF BULK AT MOST 1048576: true; the input reads as it did. -/
def macInnerUptoRow : OpenClaim := { program := "ytbnbncnmhhioeaadoor", sum := "48d68fccbc51991b9ea63b318b1903ff35d8ce286d9652b9ce144bf0e00381c3", func := "rill/rilllaw02.MacInner", spec := "macInner", named := ["rill/sha.k"], apart := false, laid := [("rill/sha.k", laid_rill_sha_k)], narrowed := true }
def MacInnerUptoSaid : Prop := macInnerUptoRow.holds Tryd.pinned (OpenSpec.upto macInnerSpec)

/-- 'rilllaw02.MacDerives', WHERE WHAT IT READS IS OF BULK AT MOST 1048576: true; the input reads as it did. -/
def macDerivesUptoRow : OpenClaim := { program := "ytbnbncnmhhioeaadoor", sum := "48d68fccbc51991b9ea63b318b1903ff35d8ce286d9652b9ce144bf0e00381c3", func := "rill/rilllaw02.MacDerives", spec := "macDerives", named := ["rill/sha.k", "rill/rillref01.K"], apart := false, laid := [("rill/rillref01.K", laid_rill_rillref01_K), ("rill/sha.k", laid_rill_sha_k)], narrowed := true }
def MacDerivesUptoSaid : Prop := macDerivesUptoRow.holds Tryd.pinned (OpenSpec.upto macDerivesSpec)

/-- 'rilllaw02.MacSame', WHERE WHAT IT READS IS OF BULK AT MOST 1048576: true; the input reads as it did. -/
def macSameUptoRow : OpenClaim := { program := "ytbnbncnmhhioeaadoor", sum := "48d68fccbc51991b9ea63b318b1903ff35d8ce286d9652b9ce144bf0e00381c3", func := "rill/rilllaw02.MacSame", spec := "macSame", named := ["rill/sha.k"], apart := false, laid := [("rill/sha.k", laid_rill_sha_k)], narrowed := true }
def MacSameUptoSaid : Prop := macSameUptoRow.holds Tryd.pinned (OpenSpec.upto macSameSpec)

/-- 'rilllaw02.MacKnown', WHERE WHAT IT READS IS OF BULK AT MOST 1048576: true; the input reads as it did. -/
def macKnownUptoRow : OpenClaim := { program := "ytbnbncnmhhioeaadoor", sum := "48d68fccbc51991b9ea63b318b1903ff35d8ce286d9652b9ce144bf0e00381c3", func := "rill/rilllaw02.MacKnown", spec := "macKnown", named := ["rill/sha.k", "rill/rillref01.K"], apart := false, laid := [("rill/rillref01.K", laid_rill_rillref01_K), ("rill/sha.k", laid_rill_sha_k)], narrowed := true }
def MacKnownUptoSaid : Prop := macKnownUptoRow.holds Tryd.pinned (OpenSpec.upto macKnownSpec)

end Rows
end Go.Proofs.YtbnbncnmhhioeaaDoor
