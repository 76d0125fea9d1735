-- Written for this claim by a program of this session's (wip/p2.sh).
import Derived.Test.YtpoafgokngpglaaDoorPFnWaysx0
import Derived.Test.YtpoafgokngpglaaDoorQfShort
import Derived.Test.YtpoafgokngpglaaDoorPFnWaysx1
import Derived.Test.YtpoafgokngpglaaDoorPFnWaysx2
import Derived.Test.YtpoafgokngpglaaDoorPFnWaysx5
import Derived.Test.YtpoafgokngpglaaDoorPFnWaysx9
import Derived.Test.YtpoafgokngpglaaDoorPFnWaysx11
import Derived.Test.YtpoafgokngpglaaDoorPFnWaysx12
import Derived.Test.YtpoafgokngpglaaDoorPw
namespace Go.Proofs.YtpoafgokngpglaaDoor.PFnWays
open Go.Proofs.YtpoafgokngpglaaDoorPw Go.RowKit Go.Proofs.YtpoafgokngpglaaDoorW.PrintWords Go.Proofs.YtpoafgokngpglaaDoorW.PrintLast Go.Proofs.YtpoafgokngpglaaDoorW.PrintMore Go.Proofs.YtpoafgokngpglaaDoorShort
attribute [local go_sem] max2_int min2_int max_two min_two max_three min_three max_four min_four   -- for this text's walks alone
attribute [local go_sem] fld34_0 fld34_1 fld39_0 fld39_1 fld46_0 fld46_1
set_option linter.unusedVariables false
set_option linter.unusedSimpArgs false

attribute [local go_sem high] eqA41
/-! ### laws_FnWays: function 7 -/
def laws_FnWays.f (k : Nat) (l0 : List Int) : Option (Bool) := (laws_lwBig.f l0).bind fun t456 => (if t456 = true then (some true) else ((spec_DrawParseWay.f k l0).bind fun t457 => ((impl_ParseWay.f k t457).bind fun bt458 => ((spec_ParseWay.f k t457).bind fun bt467 => (if bt458.1 = bt467.1 then (if bt458.1 = 0 then ((impl_WayText.f k bt458.2.1 bt458.2.2.1 bt458.2.2.2.1 bt458.2.2.2.2.1 bt458.2.2.2.2.2.1 bt458.2.2.2.2.2.2.1 bt458.2.2.2.2.2.2.2).bind fun bt475 => (if bt475.2.toList = t457.toList then ((spec_DrawHasFlag.f l0).bind fun bt477 => ((impl_HasFlag.f k bt477.1 bt477.2.1 bt477.2.2.1 bt477.2.2.2.1 bt477.2.2.2.2.1 bt477.2.2.2.2.2.1 bt477.2.2.2.2.2.2.1 bt477.2.2.2.2.2.2.2).bind fun t486 => ((spec_HasFlag.f k bt477.1 bt477.2.1 bt477.2.2.1 bt477.2.2.2.1 bt477.2.2.2.2.1 bt477.2.2.2.2.2.1 bt477.2.2.2.2.2.2.1 bt477.2.2.2.2.2.2.2).bind fun t487 => (if (t486 != t487) = true then (some false) else ((spec_DrawShownByte.f l0).bind fun bt488 => ((impl_ShownByte.f k bt488.1 bt488.2.1 bt488.2.2.1 bt488.2.2.2.1 bt488.2.2.2.2.1 bt488.2.2.2.2.2.1 bt488.2.2.2.2.2.2.1 bt488.2.2.2.2.2.2.2).bind fun bt497 => ((spec_ShownByte.f k bt488.1 bt488.2.1 bt488.2.2.1 bt488.2.2.2.1 bt488.2.2.2.2.1 bt488.2.2.2.2.2.1 bt488.2.2.2.2.2.2.1 bt488.2.2.2.2.2.2.2).bind fun bt502 => (if bt497.1 = bt502.1 then ((spec_ShownByte.f k bt488.1 bt488.2.1 bt488.2.2.1 bt488.2.2.2.1 bt488.2.2.2.2.1 bt488.2.2.2.2.2.1 bt488.2.2.2.2.2.2.1 bt488.2.2.2.2.2.2.2).bind fun bt506 => ((laws_lwSame.f bt497.2 bt506.2).bind fun t510 => (if t510 = true then ((spec_DrawUsualWay.f l0).bind fun t511 => ((impl_UsualWay.f t511).bind fun bt512 => (if bt512.1 = 0 then ((impl_WayText.f k bt512.2.1 bt512.2.2.1 bt512.2.2.2.1 bt512.2.2.2.2.1 bt512.2.2.2.2.2.1 bt512.2.2.2.2.2.2.1 bt512.2.2.2.2.2.2.2).bind fun bt521 => ((impl_WayFault.f k bt512.2.1 bt512.2.2.1 bt512.2.2.2.1 bt512.2.2.2.2.1 bt512.2.2.2.2.2.1 bt512.2.2.2.2.2.2.1 bt512.2.2.2.2.2.2.2).bind fun t524 => (if t524 = 0 then (if bt512.2.1 = t511 then (if bt521.1 = 0 then ((impl_ParseWay.f k bt521.2).bind fun bt525 => (if (bt525.2.1 == bt512.2.1 && (bt525.2.2.1 == bt512.2.2.1 && (bt525.2.2.2.1 == bt512.2.2.2.1 && (bt525.2.2.2.2.1 == bt512.2.2.2.2.1 && (bt525.2.2.2.2.2.1 == bt512.2.2.2.2.2.1 && (bt525.2.2.2.2.2.2.1 == bt512.2.2.2.2.2.2.1 && (bt525.2.2.2.2.2.2.2 == bt512.2.2.2.2.2.2.2))))))) = true then ((impl_HasFlag.f k bt512.2.1 bt512.2.2.1 bt512.2.2.2.1 bt512.2.2.2.2.1 bt512.2.2.2.2.2.1 bt512.2.2.2.2.2.2.1 bt512.2.2.2.2.2.2.2 2).bind fun t533 => (some (t533 == (decide ((Int.tmod t511 4) ≥ 2))))) else (some false))) else (some false)) else (some false)) else (some false)))) else ((spec_UsualWay.f t511).bind fun bt534 => (some (bt534.1 == bt512.1)))))) else (some false)))) else (some false))))))))) else (some false))) else ((spec_DrawHasFlag.f l0).bind fun bt542 => ((impl_HasFlag.f k bt542.1 bt542.2.1 bt542.2.2.1 bt542.2.2.2.1 bt542.2.2.2.2.1 bt542.2.2.2.2.2.1 bt542.2.2.2.2.2.2.1 bt542.2.2.2.2.2.2.2).bind fun t551 => ((spec_HasFlag.f k bt542.1 bt542.2.1 bt542.2.2.1 bt542.2.2.2.1 bt542.2.2.2.2.1 bt542.2.2.2.2.2.1 bt542.2.2.2.2.2.2.1 bt542.2.2.2.2.2.2.2).bind fun t552 => (if (t551 != t552) = true then (some false) else ((spec_DrawShownByte.f l0).bind fun bt553 => ((impl_ShownByte.f k bt553.1 bt553.2.1 bt553.2.2.1 bt553.2.2.2.1 bt553.2.2.2.2.1 bt553.2.2.2.2.2.1 bt553.2.2.2.2.2.2.1 bt553.2.2.2.2.2.2.2).bind fun bt562 => ((spec_ShownByte.f k bt553.1 bt553.2.1 bt553.2.2.1 bt553.2.2.2.1 bt553.2.2.2.2.1 bt553.2.2.2.2.2.1 bt553.2.2.2.2.2.2.1 bt553.2.2.2.2.2.2.2).bind fun bt567 => (if bt562.1 = bt567.1 then ((spec_ShownByte.f k bt553.1 bt553.2.1 bt553.2.2.1 bt553.2.2.2.1 bt553.2.2.2.2.1 bt553.2.2.2.2.2.1 bt553.2.2.2.2.2.2.1 bt553.2.2.2.2.2.2.2).bind fun bt571 => ((laws_lwSame.f bt562.2 bt571.2).bind fun t575 => (if t575 = true then ((spec_DrawUsualWay.f l0).bind fun t576 => ((impl_UsualWay.f t576).bind fun bt577 => (if bt577.1 = 0 then ((impl_WayText.f k bt577.2.1 bt577.2.2.1 bt577.2.2.2.1 bt577.2.2.2.2.1 bt577.2.2.2.2.2.1 bt577.2.2.2.2.2.2.1 bt577.2.2.2.2.2.2.2).bind fun bt586 => ((impl_WayFault.f k bt577.2.1 bt577.2.2.1 bt577.2.2.2.1 bt577.2.2.2.2.1 bt577.2.2.2.2.2.1 bt577.2.2.2.2.2.2.1 bt577.2.2.2.2.2.2.2).bind fun t589 => (if t589 = 0 then (if bt577.2.1 = t576 then (if bt586.1 = 0 then ((impl_ParseWay.f k bt586.2).bind fun bt590 => (if (bt590.2.1 == bt577.2.1 && (bt590.2.2.1 == bt577.2.2.1 && (bt590.2.2.2.1 == bt577.2.2.2.1 && (bt590.2.2.2.2.1 == bt577.2.2.2.2.1 && (bt590.2.2.2.2.2.1 == bt577.2.2.2.2.2.1 && (bt590.2.2.2.2.2.2.1 == bt577.2.2.2.2.2.2.1 && (bt590.2.2.2.2.2.2.2 == bt577.2.2.2.2.2.2.2))))))) = true then ((impl_HasFlag.f k bt577.2.1 bt577.2.2.1 bt577.2.2.2.1 bt577.2.2.2.2.1 bt577.2.2.2.2.2.1 bt577.2.2.2.2.2.2.1 bt577.2.2.2.2.2.2.2 2).bind fun t598 => (some (t598 == (decide ((Int.tmod t576 4) ≥ 2))))) else (some false))) else (some false)) else (some false)) else (some false)))) else ((spec_UsualWay.f t576).bind fun bt599 => (some (bt599.1 == bt577.1)))))) else (some false)))) else (some false)))))))))) else (some false))))))
theorem laws_FnWays.mono : ∀ a0 k, LeO (laws_FnWays.f k a0) (laws_FnWays.f (k + 1) a0) := by
 intro a0 k
 unfold laws_FnWays.f
 repeat' first
   | (with_reducible exact impl_HasFlag.mono _ _ _ _ _ _ _ _ _)
   | (with_reducible exact impl_ParseWay.mono _ _)
   | (with_reducible exact impl_ShownByte.mono _ _ _ _ _ _ _ _ _)
   | (with_reducible exact impl_WayFault.mono _ _ _ _ _ _ _ _)
   | (with_reducible exact impl_WayText.mono _ _ _ _ _ _ _ _)
   | (with_reducible exact spec_DrawParseWay.mono _ _)
   | (with_reducible exact spec_HasFlag.mono _ _ _ _ _ _ _ _ _)
   | (with_reducible exact spec_ParseWay.mono _ _)
   | (with_reducible exact spec_ShownByte.mono _ _ _ _ _ _ _ _ _)
   | (with_reducible exact LeO.refl _)
   | (with_reducible exact LeO.none _)
   | (with_reducible refine LeO.ite ?_ ?_)
   | (with_reducible refine LeO.bind ?_ (fun _ => ?_))
   | exact impl_HasFlag.mono _ _ _ _ _ _ _ _ _
   | exact impl_ParseWay.mono _ _
   | exact impl_ShownByte.mono _ _ _ _ _ _ _ _ _
   | exact impl_WayFault.mono _ _ _ _ _ _ _ _
   | exact impl_WayText.mono _ _ _ _ _ _ _ _
   | exact spec_DrawParseWay.mono _ _
   | exact spec_HasFlag.mono _ _ _ _ _ _ _ _ _
   | exact spec_ParseWay.mono _ _
   | exact spec_ShownByte.mono _ _ _ _ _ _ _ _ _
   | exact LeO.none _
   | refine LeO.ite ?_ ?_
   | refine LeO.bind ?_ (fun _ => ?_)
def laws_FnWays.T5 : Bool × List (List Nat × List Nat) := (true, [([], []), ([0], [0]), ([], []), ([2], [2]), ([3], [3]), ([1, 4], [1, 4]), ([5, 3], [5]), ([6], [6]), ([7, 6], [6, 7]), ([8, 6], [6, 8]), ([9, 6, 6], [6, 9]), ([10], [10]), ([11, 10], [10, 11]), ([12, 10, 10], [10, 12]), ([13, 10], [10, 13]), ([10], [10]), ([14, 15, 10], [10, 14, 15]), ([10, 16, 6], [6, 10, 16]), ([6, 17], [6, 17])])
def laws_FnWays.B5 : List Nat := [0, 1, 0, 4, 12, 31, 63, 127, 255, 511, 1023, 2047, 4095, 8191, 16383, 2047, 65535, 131071, 262143]
theorem laws_FnWays.tab5 : rtab .any (opsOf Tryd.f7 5) = laws_FnWays.T5 := by kernel_rfl
theorem laws_FnWays.bits5 : waitsOk laws_FnWays.T5.2 laws_FnWays.B5 = true := by kernel_rfl
def laws_FnWays.T12 : Bool × List (List Nat × List Nat) := (true, [([], []), ([0], [0]), ([], []), ([], []), ([2, 3], [2, 3]), ([4], [4]), ([1, 5], [1, 5]), ([6, 4], [6]), ([7], [7]), ([8, 7], [7, 8]), ([7], [7]), ([7], [7]), ([10, 11, 7, 7], [7, 10, 11]), ([12, 7], [7, 12]), ([9, 13, 12, 7], [7, 9, 13]), ([14, 7], [7, 14]), ([7, 15], [7, 15])])
def laws_FnWays.B12 : List Nat := [0, 1, 0, 0, 12, 28, 63, 127, 255, 511, 255, 255, 3327, 7423, 16383, 32767, 65535]
theorem laws_FnWays.tab12 : rtab .any (opsOf Tryd.f7 12) = laws_FnWays.T12 := by kernel_rfl
theorem laws_FnWays.bits12 : waitsOk laws_FnWays.T12.2 laws_FnWays.B12 = true := by kernel_rfl
def laws_FnWays.T19 : Bool × List (List Nat × List Nat) := (true, [([], []), ([0], [0]), ([1], [1]), ([2], [2]), ([3, 2], [3]), ([4], [4]), ([5, 4], [4, 5]), ([6, 4], [4, 6]), ([4], [4]), ([7, 8, 4], [4, 7, 8]), ([4, 9], [4, 9]), ([10, 4], [10]), ([11], [11]), ([12, 11], [11, 12]), ([13, 11], [11, 13]), ([11, 14], [11, 14]), ([15, 11], [15]), ([16], [16]), ([17, 16], [16, 17]), ([18, 16, 16], [16, 18]), ([19, 16], [16, 19]), ([16], [16]), ([21, 16], [16, 21]), ([20, 22, 16], [16, 20, 22]), ([16, 23], [16, 23]), ([24, 19], [24]), ([25], [25]), ([26, 25], [25, 26]), ([27, 25, 25], [25, 27]), ([25], [25]), ([29, 25], [25, 29]), ([30, 25], [25, 30]), ([28, 31, 25], [25, 28, 31]), ([25, 32], [25, 32]), ([33, 28, 0, 1, 2, 3, 4, 5, 6, 7, 8, 9, 10, 11, 12, 13, 14, 15, 16, 17, 18, 19, 20, 21, 22, 23, 24, 25, 26, 27, 28, 29, 30, 31, 32, 33], [33])])
def laws_FnWays.B19 : List Nat := [0, 1, 3, 7, 15, 31, 63, 127, 31, 511, 1023, 2047, 4095, 8191, 16383, 32767, 65535, 131071, 262143, 524287, 1048575, 131071, 2228223, 8388607, 16777215, 33554431, 67108863, 134217727, 268435455, 67108863, 603979775, 1677721599, 4294967295, 8589934591, 17179869183]
theorem laws_FnWays.tab19 : rtab .any (opsOf Tryd.f7 19) = laws_FnWays.T19 := by kernel_rfl
theorem laws_FnWays.bits19 : waitsOk laws_FnWays.T19.2 laws_FnWays.B19 = true := by kernel_rfl

end Go.Proofs.YtpoafgokngpglaaDoor.PFnWays
