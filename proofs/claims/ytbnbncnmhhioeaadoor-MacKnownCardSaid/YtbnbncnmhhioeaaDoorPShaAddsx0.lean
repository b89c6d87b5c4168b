-- PRINTED BY print.sh 35421559b90ae4d0a3588c463048766b98c2df88dd9212a6774a882060cdf62d: not written by this session
import Derived.Test.YtbnbncnmhhioeaaDoorProg
import Derived.Below
import Derived.Deep.Draws
import Derived.Deep.AppendLies
import Derived.Maps.AppendAt
import Derived.OwnWalk
import Derived.Laws.BytesArg
import Derived.Laws.MakeOwn
import Derived.Laws.OwnMore
import Derived.Deep.OwnRows
import Derived.Tactics
import Derived.Lib.ConvBytes
import Derived.Laws.Slices
import Derived.WalkKit
import Derived.KernelRfl
import Derived.RowKit3
import Derived.Deep.LoopGhost
import Derived.Deep.QuietTactic
import Derived.BigQuiet
import Derived.WideLaws
import Derived.Deep.DeepCutAuto
import Derived.Deep.CutBlock
import Derived.Deep.RegionHeld3
import Derived.Laws.Rows
import Derived.Lib.AppendStr
import Derived.ArgAppend
import Derived.Laws.IdiomCopy
import Derived.OrdersHeld
import Derived.Laws.BitsLemmas
import Derived.RowKit
import Derived.Test.YtbnbncnmhhioeaaDoorWWords
import Derived.Test.YtbnbncnmhhioeaaDoorWLast
import Derived.Test.YtbnbncnmhhioeaaDoorWTab
import Derived.Test.YtbnbncnmhhioeaaDoorWFour
import Derived.Test.YtbnbncnmhhioeaaDoorWQPut
import Derived.Test.YtbnbncnmhhioeaaDoorWApart
import Derived.Test.YtbnbncnmhhioeaaDoorWArr
import Derived.Test.YtbnbncnmhhioeaaDoorWZeros
import Derived.Test.YtbnbncnmhhioeaaDoorWFoot
import Derived.Test.YtbnbncnmhhioeaaDoorWKept
import Derived.Test.YtbnbncnmhhioeaaDoorWShare
import Derived.Test.YtbnbncnmhhioeaaDoorWN
import Derived.Test.YtbnbncnmhhioeaaDoorWFootNe
import Derived.Test.YtbnbncnmhhioeaaDoorWAt
import Derived.Test.YtbnbncnmhhioeaaDoorWEqStruct
import Derived.Test.YtbnbncnmhhioeaaDoorWRepsOne
import Derived.Test.YtbnbncnmhhioeaaDoorWInv
import Derived.Test.YtbnbncnmhhioeaaDoorWInvWords
import Derived.Test.YtbnbncnmhhioeaaDoorWGuard
import Derived.Test.YtbnbncnmhhioeaaDoorWNEv
import Derived.Test.YtbnbncnmhhioeaaDoorWMore
namespace Go.Proofs.YtbnbncnmhhioeaaDoor.PShaAdds
open Go.RowKit Go.Proofs.YtbnbncnmhhioeaaDoorW.PrintWords Go.Proofs.YtbnbncnmhhioeaaDoorW.PrintLast Go.Proofs.YtbnbncnmhhioeaaDoorW.PrintMore
attribute [local go_sem] max2_int min2_int max_two min_two max_three min_three max_four min_four   -- for this text's walks alone
set_option linter.unusedVariables false
set_option linter.unusedSimpArgs false



def errW : Option Int → Value
  | none => .nilIface
  | some c => .iface 0 (.int .i64 c)
theorem errW_none : errW none = .nilIface := rfl
theorem errW_some (c : Int) : errW (some c) = .iface 0 (.int .i64 c) := rfl

theorem info5 : (Tryd.prog.info? 5).map (fun i => (i.zero, i.size, i.bytes)) = some (some (.int .u8 0), 1, 1) := by kernel_rfl
theorem info39 : (Tryd.prog.info? 39).map (fun i => (i.zero, i.size, i.bytes)) = some (some (.int .u32 0), 1, 4) := by kernel_rfl
-- the values' own types

end Go.Proofs.YtbnbncnmhhioeaaDoor.PShaAdds
