-- Written for this claim by a program of this session's (wip/p2.sh).
import Derived.Test.YticblminpeodjaaProg
import Derived.Below
import Derived.Deep.Draws
import Derived.Deep.AppendLies
import Derived.Maps.AppendAt
import Derived.OwnWalk
import Derived.Laws.BytesArg
import Derived.Laws.MakeOwn
import Derived.Laws.OwnMore
import Derived.Deep.OwnRows
import Derived.Tactics
import Derived.Lib.ConvBytes
import Derived.Laws.Slices
import Derived.WalkKit
import Derived.KernelRfl
import Derived.RowKit3
import Derived.Deep.LoopGhost
import Derived.Deep.QuietTactic
import Derived.BigQuiet
import Derived.WideLaws
import Derived.Deep.DeepCutAuto
import Derived.Deep.CutBlock
import Derived.Deep.RegionHeld3
import Derived.Laws.Rows
import Derived.Lib.AppendStr
import Derived.ArgAppend
import Derived.Laws.IdiomCopy
import Derived.OrdersHeld
import Derived.Laws.BitsLemmas
import Derived.RowKit
import Derived.Test.YticblminpeodjaaWWords
import Derived.Test.YticblminpeodjaaWLast
import Derived.Test.YticblminpeodjaaWTab
import Derived.Test.YticblminpeodjaaWFour
import Derived.Test.YticblminpeodjaaWQPut
import Derived.Test.YticblminpeodjaaWApart
import Derived.Test.YticblminpeodjaaWArr
import Derived.Test.YticblminpeodjaaWZeros
import Derived.Test.YticblminpeodjaaWFoot
import Derived.Test.YticblminpeodjaaWKept
import Derived.Test.YticblminpeodjaaWShare
import Derived.Test.YticblminpeodjaaWN
import Derived.Test.YticblminpeodjaaWFootNe
import Derived.Test.YticblminpeodjaaWAt
import Derived.Test.YticblminpeodjaaWEqStruct
import Derived.Test.YticblminpeodjaaWRepsOne
import Derived.Test.YticblminpeodjaaWInv
import Derived.Test.YticblminpeodjaaWInvWords
import Derived.Test.YticblminpeodjaaWGuard
import Derived.Test.YticblminpeodjaaWNEv
import Derived.Test.YticblminpeodjaaWMore
namespace Go.Proofs.Yticblminpeodjaa.PFnExactTextsFault
open Go.RowKit Go.Proofs.YticblminpeodjaaW.PrintWords Go.Proofs.YticblminpeodjaaW.PrintLast Go.Proofs.YticblminpeodjaaW.PrintMore
attribute [local go_sem] max2_int min2_int max_two min_two max_three min_three max_four min_four   -- for this text's walks alone
set_option linter.unusedVariables false
set_option linter.unusedSimpArgs false



def errW : Option Int → Value
  | none => .nilIface
  | some c => .iface 0 (.int .i64 c)
theorem errW_none : errW none = .nilIface := rfl
theorem errW_some (c : Int) : errW (some c) = .iface 0 (.int .i64 c) := rfl

theorem info9 : (Try.prog.info? 9).map (fun i => (i.zero, i.size, i.bytes)) = some (some (.string ⟨#[]⟩), 1, 16) := by kernel_rfl
-- the values' own types

end Go.Proofs.Yticblminpeodjaa.PFnExactTextsFault
