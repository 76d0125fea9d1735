-- Written for this claim by a program of this session's (wip/p2.sh).
import Derived.Test.YticblminpeodjaaDoorProg
import Derived.Below
import Derived.Deep.Draws
import Derived.Deep.AppendLies
import Derived.Maps.AppendAt
import Derived.OwnWalk
import Derived.Laws.BytesArg
import Derived.Laws.MakeOwn
import Derived.Laws.OwnMore
import Derived.Deep.OwnRows
import Derived.Tactics
import Derived.Lib.ConvBytes
import Derived.Laws.Slices
import Derived.WalkKit
import Derived.KernelRfl
import Derived.RowKit3
import Derived.Deep.LoopGhost
import Derived.Deep.QuietTactic
import Derived.BigQuiet
import Derived.WideLaws
import Derived.Deep.DeepCutAuto
import Derived.Deep.CutBlock
import Derived.Deep.RegionHeld3
import Derived.Laws.Rows
import Derived.Lib.AppendStr
import Derived.ArgAppend
import Derived.Laws.IdiomCopy
import Derived.OrdersHeld
import Derived.Laws.BitsLemmas
import Derived.RowKit
import Derived.Test.YticblminpeodjaaDoorWWords
import Derived.Test.YticblminpeodjaaDoorWLast
import Derived.Test.YticblminpeodjaaDoorWTab
import Derived.Test.YticblminpeodjaaDoorWFour
import Derived.Test.YticblminpeodjaaDoorWQPut
import Derived.Test.YticblminpeodjaaDoorWApart
import Derived.Test.YticblminpeodjaaDoorWArr
import Derived.Test.YticblminpeodjaaDoorWZeros
import Derived.Test.YticblminpeodjaaDoorWFoot
import Derived.Test.YticblminpeodjaaDoorWKept
import Derived.Test.YticblminpeodjaaDoorWShare
import Derived.Test.YticblminpeodjaaDoorWN
import Derived.Test.YticblminpeodjaaDoorWFootNe
import Derived.Test.YticblminpeodjaaDoorWAt
import Derived.Test.YticblminpeodjaaDoorWEqStruct
import Derived.Test.YticblminpeodjaaDoorWRepsOne
import Derived.Test.YticblminpeodjaaDoorWInv
import Derived.Test.YticblminpeodjaaDoorWInvWords
import Derived.Test.YticblminpeodjaaDoorWGuard
import Derived.Test.YticblminpeodjaaDoorWNEv
import Derived.Test.YticblminpeodjaaDoorWMore
namespace Go.Proofs.YticblminpeodjaaDoor.PFnExactAccentChar
open Go.RowKit Go.Proofs.YticblminpeodjaaDoorW.PrintWords Go.Proofs.YticblminpeodjaaDoorW.PrintLast Go.Proofs.YticblminpeodjaaDoorW.PrintMore
attribute [local go_sem] max2_int min2_int max_two min_two max_three min_three max_four min_four   -- for this text's walks alone
set_option linter.unusedVariables false
set_option linter.unusedSimpArgs false



def errW : Option Int → Value
  | none => .nilIface
  | some c => .iface 0 (.int .i64 c)
theorem errW_none : errW none = .nilIface := rfl
theorem errW_some (c : Int) : errW (some c) = .iface 0 (.int .i64 c) := rfl

theorem info2 : (Tryd.prog.info? 2).map (fun i => (i.zero, i.size, i.bytes)) = some (some (.int .i64 0), 1, 8) := by kernel_rfl
-- the values' own types

end Go.Proofs.YticblminpeodjaaDoor.PFnExactAccentChar
