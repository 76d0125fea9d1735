-- Written for this claim by a program of this session's (wip/p2.sh).
import Derived.Test.YtckgkblpbfckdaaPFnExactSameVtsx0
import Derived.Test.YtckgkblpbfckdaaQgBrief
import Derived.Test.YtckgkblpbfckdaaQgShort
import Derived.Test.YtckgkblpbfckdaaQgQuick
import Derived.Test.YtckgkblpbfckdaaPFnExactSameVtsx1
import Derived.Test.YtckgkblpbfckdaaPFnExactSameVtsx4
import Derived.Test.YtckgkblpbfckdaaPFnExactSameVtsx5
import Derived.Test.YtckgkblpbfckdaaPFnExactSameVtsx6
namespace Go.Proofs.Ytckgkblpbfckdaa.PFnExactSameVts
open Go.RowKit Go.Proofs.YtckgkblpbfckdaaW.PrintWords Go.Proofs.YtckgkblpbfckdaaW.PrintLast Go.Proofs.YtckgkblpbfckdaaW.PrintMore Go.Proofs.YtckgkblpbfckdaaQuick Go.Proofs.YtckgkblpbfckdaaBrief Go.Proofs.YtckgkblpbfckdaaCells
open Go.Proofs.YtckgkblpbfckdaaShort hiding bA
attribute [local go_sem] max2_int min2_int max_two min_two max_three min_three max_four min_four   -- for this text's walks alone
set_option linter.unusedVariables false
set_option linter.unusedSimpArgs false

attribute [local go_sem high] eqA37
/-! ### spec_l6Same: function 11 -/
def spec_l6Same.j0 : Nat → Bool → Int → Int → Int → Int → Int → Bool → List Int → Int → Int → List (S74) → List (S74) → Int → Int → Bool → Int → Int → Int → Bool → Bool → Bool → List Bool → Int → Int → Int → List Int → Int → Int → Int → Int → Int → Int → Int → Bool → List Int → Int → Int → List (S74) → List (S74) → Int → Int → Bool → Int → Int → Int → Bool → Bool → Bool → List Bool → Int → Int → Int → List Int → Int → Int → Option (Bool)
 | 0, _, _, _, _, _, _, _, _, _, _, _, _, _, _, _, _, _, _, _, _, _, _, _, _, _, _, _, _, _, _, _, _, _, _, _, _, _, _, _, _, _, _, _, _, _, _, _, _, _, _, _, _, _, _, _ => none
 | k + 1, x51, x51000, x51001, x51002, x51003, x51004, x51005, x51006, x51007, x51008, x51009, x51010, x51011, x51012, x51013, x51014, x51015, x51016, x51017, x51018, x51019, x51020, x51021, x51022, x51023, x51024, x51025, x51026, x52000, x52001, x52002, x52003, x52004, x52005, x52006, x52007, x52008, x52009, x52010, x52011, x52012, x52013, x52014, x52015, x52016, x52017, x52018, x52019, x52020, x52021, x52022, x52023, x52024, x52025, x52026 => if x51 = true then (some false) else (if x51021 = x52021 then (if x51022 = x52022 then (if x51023 = x52023 then (some (x51026 == x52026)) else (some false)) else (some false)) else (some false))
def spec_l6Same.f (k : Nat) (a0_0 : Int) (a0_1 : Int) (a0_2 : Int) (a0_3 : Int) (a0_4 : Int) (a0_5 : Bool) (l0_6 : List Int) (a0_7 : Int) (a0_8 : Int) (l0_9 : List (S74)) (l0_10 : List (S74)) (a0_11 : Int) (a0_12 : Int) (a0_13 : Bool) (a0_14 : Int) (a0_15 : Int) (a0_16 : Int) (a0_17 : Bool) (a0_18 : Bool) (a0_19 : Bool) (l0_20 : List Bool) (a0_21 : Int) (a0_22 : Int) (a0_23 : Int) (l0_24 : List Int) (a0_25 : Int) (a0_26 : Int) (a1_0 : Int) (a1_1 : Int) (a1_2 : Int) (a1_3 : Int) (a1_4 : Int) (a1_5 : Bool) (l1_6 : List Int) (a1_7 : Int) (a1_8 : Int) (l1_9 : List (S74)) (l1_10 : List (S74)) (a1_11 : Int) (a1_12 : Int) (a1_13 : Bool) (a1_14 : Int) (a1_15 : Int) (a1_16 : Int) (a1_17 : Bool) (a1_18 : Bool) (a1_19 : Bool) (l1_20 : List Bool) (a1_21 : Int) (a1_22 : Int) (a1_23 : Int) (l1_24 : List Int) (a1_25 : Int) (a1_26 : Int) : Option (Bool) := if (!(a0_0 == a1_0) || (!(a0_1 == a1_1) || (!(a0_2 == a1_2)))) = true then (spec_l6Same.j0 k true a0_0 a0_1 a0_2 a0_3 a0_4 a0_5 l0_6 a0_7 a0_8 l0_9 l0_10 a0_11 a0_12 a0_13 a0_14 a0_15 a0_16 a0_17 a0_18 a0_19 l0_20 a0_21 a0_22 a0_23 l0_24 a0_25 a0_26 a1_0 a1_1 a1_2 a1_3 a1_4 a1_5 l1_6 a1_7 a1_8 l1_9 l1_10 a1_11 a1_12 a1_13 a1_14 a1_15 a1_16 a1_17 a1_18 a1_19 l1_20 a1_21 a1_22 a1_23 l1_24 a1_25 a1_26) else ((spec_l4Same.f k a0_3 a0_4 a0_5 l0_6 a1_3 a1_4 a1_5 l1_6).bind fun t123 => (if t123 = true then ((spec_l5Shown.f k a0_7 a0_8 l0_9 l0_10 a0_11 a0_12 a0_13 a0_14 a0_15 a0_16 a0_17 a0_18 a0_19 l0_20 a0_21 a0_22 a0_23 l0_24 a0_25 a0_26 a1_7 a1_8 l1_9 l1_10 a1_11 a1_12 a1_13 a1_14 a1_15 a1_16 a1_17 a1_18 a1_19 l1_20 a1_21 a1_22 a1_23 l1_24 a1_25 a1_26).bind fun t124 => (if t124 = true then ((spec_l3SameCells.f k l0_10 l1_10).bind fun t125 => (spec_l6Same.j0 k (!t125) a0_0 a0_1 a0_2 a0_3 a0_4 a0_5 l0_6 a0_7 a0_8 l0_9 l0_10 a0_11 a0_12 a0_13 a0_14 a0_15 a0_16 a0_17 a0_18 a0_19 l0_20 a0_21 a0_22 a0_23 l0_24 a0_25 a0_26 a1_0 a1_1 a1_2 a1_3 a1_4 a1_5 l1_6 a1_7 a1_8 l1_9 l1_10 a1_11 a1_12 a1_13 a1_14 a1_15 a1_16 a1_17 a1_18 a1_19 l1_20 a1_21 a1_22 a1_23 l1_24 a1_25 a1_26)) else (spec_l6Same.j0 k true a0_0 a0_1 a0_2 a0_3 a0_4 a0_5 l0_6 a0_7 a0_8 l0_9 l0_10 a0_11 a0_12 a0_13 a0_14 a0_15 a0_16 a0_17 a0_18 a0_19 l0_20 a0_21 a0_22 a0_23 l0_24 a0_25 a0_26 a1_0 a1_1 a1_2 a1_3 a1_4 a1_5 l1_6 a1_7 a1_8 l1_9 l1_10 a1_11 a1_12 a1_13 a1_14 a1_15 a1_16 a1_17 a1_18 a1_19 l1_20 a1_21 a1_22 a1_23 l1_24 a1_25 a1_26))) else (spec_l6Same.j0 k true a0_0 a0_1 a0_2 a0_3 a0_4 a0_5 l0_6 a0_7 a0_8 l0_9 l0_10 a0_11 a0_12 a0_13 a0_14 a0_15 a0_16 a0_17 a0_18 a0_19 l0_20 a0_21 a0_22 a0_23 l0_24 a0_25 a0_26 a1_0 a1_1 a1_2 a1_3 a1_4 a1_5 l1_6 a1_7 a1_8 l1_9 l1_10 a1_11 a1_12 a1_13 a1_14 a1_15 a1_16 a1_17 a1_18 a1_19 l1_20 a1_21 a1_22 a1_23 l1_24 a1_25 a1_26)))
theorem spec_l6Same.mono_l : ∀ k, (∀ y0 y1 y2 y3 y4 y5 y6 y7 y8 y9 y10 y11 y12 y13 y14 y15 y16 y17 y18 y19 y20 y21 y22 y23 y24 y25 y26 y27 y28 y29 y30 y31 y32 y33 y34 y35 y36 y37 y38 y39 y40 y41 y42 y43 y44 y45 y46 y47 y48 y49 y50 y51 y52 y53 y54, LeO (spec_l6Same.j0 k y0 y1 y2 y3 y4 y5 y6 y7 y8 y9 y10 y11 y12 y13 y14 y15 y16 y17 y18 y19 y20 y21 y22 y23 y24 y25 y26 y27 y28 y29 y30 y31 y32 y33 y34 y35 y36 y37 y38 y39 y40 y41 y42 y43 y44 y45 y46 y47 y48 y49 y50 y51 y52 y53 y54) (spec_l6Same.j0 (k + 1) y0 y1 y2 y3 y4 y5 y6 y7 y8 y9 y10 y11 y12 y13 y14 y15 y16 y17 y18 y19 y20 y21 y22 y23 y24 y25 y26 y27 y28 y29 y30 y31 y32 y33 y34 y35 y36 y37 y38 y39 y40 y41 y42 y43 y44 y45 y46 y47 y48 y49 y50 y51 y52 y53 y54))
 | 0 => fun _ _ _ _ _ _ _ _ _ _ _ _ _ _ _ _ _ _ _ _ _ _ _ _ _ _ _ _ _ _ _ _ _ _ _ _ _ _ _ _ _ _ _ _ _ _ _ _ _ _ _ _ _ _ _ r h => by simp [spec_l6Same.j0] at h
 | k + 1 => by
  have ih0 := spec_l6Same.mono_l k
  ·intro y0 y1 y2 y3 y4 y5 y6 y7 y8 y9 y10 y11 y12 y13 y14 y15 y16 y17 y18 y19 y20 y21 y22 y23 y24 y25 y26 y27 y28 y29 y30 y31 y32 y33 y34 y35 y36 y37 y38 y39 y40 y41 y42 y43 y44 y45 y46 y47 y48 y49 y50 y51 y52 y53 y54
   unfold spec_l6Same.j0
   repeat' first
   | (with_reducible exact ih0 _ _ _ _ _ _ _ _ _ _ _ _ _ _ _ _ _ _ _ _ _ _ _ _ _ _ _ _ _ _ _ _ _ _ _ _ _ _ _ _ _ _ _ _ _ _ _ _ _ _ _ _ _ _ _)
   | (with_reducible exact spec_l3SameCells.mono _ _ _)
   | (with_reducible exact spec_l4Same.mono _ _ _ _ _ _ _ _ _)
   | (with_reducible exact spec_l5Shown.mono _ _ _ _ _ _ _ _ _ _ _ _ _ _ _ _ _ _ _ _ _ _ _ _ _ _ _ _ _ _ _ _ _ _ _ _ _ _ _ _ _)
   | (with_reducible exact LeO.refl _)
   | (with_reducible exact LeO.none _)
   | (with_reducible refine LeO.ite ?_ ?_)
   | (with_reducible refine LeO.bind ?_ (fun _ => ?_))
   | exact ih0 _ _ _ _ _ _ _ _ _ _ _ _ _ _ _ _ _ _ _ _ _ _ _ _ _ _ _ _ _ _ _ _ _ _ _ _ _ _ _ _ _ _ _ _ _ _ _ _ _ _ _ _ _ _ _
   | exact spec_l3SameCells.mono _ _ _
   | exact spec_l4Same.mono _ _ _ _ _ _ _ _ _
   | exact spec_l5Shown.mono _ _ _ _ _ _ _ _ _ _ _ _ _ _ _ _ _ _ _ _ _ _ _ _ _ _ _ _ _ _ _ _ _ _ _ _ _ _ _ _ _
   | exact LeO.none _
   | refine LeO.ite ?_ ?_
   | refine LeO.bind ?_ (fun _ => ?_)
theorem spec_l6Same.mono : ∀ a0 a1 a2 a3 a4 a5 a6 a7 a8 a9 a10 a11 a12 a13 a14 a15 a16 a17 a18 a19 a20 a21 a22 a23 a24 a25 a26 a27 a28 a29 a30 a31 a32 a33 a34 a35 a36 a37 a38 a39 a40 a41 a42 a43 a44 a45 a46 a47 a48 a49 a50 a51 a52 a53 k, LeO (spec_l6Same.f k a0 a1 a2 a3 a4 a5 a6 a7 a8 a9 a10 a11 a12 a13 a14 a15 a16 a17 a18 a19 a20 a21 a22 a23 a24 a25 a26 a27 a28 a29 a30 a31 a32 a33 a34 a35 a36 a37 a38 a39 a40 a41 a42 a43 a44 a45 a46 a47 a48 a49 a50 a51 a52 a53) (spec_l6Same.f (k + 1) a0 a1 a2 a3 a4 a5 a6 a7 a8 a9 a10 a11 a12 a13 a14 a15 a16 a17 a18 a19 a20 a21 a22 a23 a24 a25 a26 a27 a28 a29 a30 a31 a32 a33 a34 a35 a36 a37 a38 a39 a40 a41 a42 a43 a44 a45 a46 a47 a48 a49 a50 a51 a52 a53) := by
 intro a0 a1 a2 a3 a4 a5 a6 a7 a8 a9 a10 a11 a12 a13 a14 a15 a16 a17 a18 a19 a20 a21 a22 a23 a24 a25 a26 a27 a28 a29 a30 a31 a32 a33 a34 a35 a36 a37 a38 a39 a40 a41 a42 a43 a44 a45 a46 a47 a48 a49 a50 a51 a52 a53 k
 have ih0 := spec_l6Same.mono_l k
 unfold spec_l6Same.f
 repeat' first
   | (with_reducible exact ih0 _ _ _ _ _ _ _ _ _ _ _ _ _ _ _ _ _ _ _ _ _ _ _ _ _ _ _ _ _ _ _ _ _ _ _ _ _ _ _ _ _ _ _ _ _ _ _ _ _ _ _ _ _ _ _)
   | (with_reducible exact spec_l3SameCells.mono _ _ _)
   | (with_reducible exact spec_l4Same.mono _ _ _ _ _ _ _ _ _)
   | (with_reducible exact spec_l5Shown.mono _ _ _ _ _ _ _ _ _ _ _ _ _ _ _ _ _ _ _ _ _ _ _ _ _ _ _ _ _ _ _ _ _ _ _ _ _ _ _ _ _)
   | (with_reducible exact LeO.refl _)
   | (with_reducible exact LeO.none _)
   | (with_reducible refine LeO.ite ?_ ?_)
   | (with_reducible refine LeO.bind ?_ (fun _ => ?_))
   | exact ih0 _ _ _ _ _ _ _ _ _ _ _ _ _ _ _ _ _ _ _ _ _ _ _ _ _ _ _ _ _ _ _ _ _ _ _ _ _ _ _ _ _ _ _ _ _ _ _ _ _ _ _ _ _ _ _
   | exact spec_l3SameCells.mono _ _ _
   | exact spec_l4Same.mono _ _ _ _ _ _ _ _ _
   | exact spec_l5Shown.mono _ _ _ _ _ _ _ _ _ _ _ _ _ _ _ _ _ _ _ _ _ _ _ _ _ _ _ _ _ _ _ _ _ _ _ _ _ _ _ _ _
   | exact LeO.none _
   | refine LeO.ite ?_ ?_
   | refine LeO.bind ?_ (fun _ => ?_)
def spec_l6Same.T3 : Bool × List (List Nat × List Nat) := (true, [([], []), ([0], [0]), ([1], [1]), ([2], [2]), ([], []), ([4], [4]), ([5], [5]), ([6], [6]), ([3, 7], [3, 7]), ([8], [8]), ([9], [9]), ([10, 9], [9, 10]), ([11, 9], [9, 11]), ([9], [9]), ([13, 9], [9, 13]), ([14, 9], [9, 14]), ([12, 15, 9, 9], [9, 12, 15]), ([16, 9], [9, 16]), ([9, 17], [9, 17]), ([18, 16], [18]), ([19], [19]), ([19], [19]), ([20, 21, 19, 19], [19, 20, 21]), ([22, 19], [19, 22]), ([19, 23], [19, 23]), ([24, 22], [24]), ([25], [25]), ([26, 25], [25, 26]), ([27, 25], [25, 27]), ([28, 25], [25, 28]), ([29, 25], [25, 29]), ([25], [25]), ([31, 25], [25, 31]), ([32, 25], [25, 32]), ([33, 25], [25, 33]), ([34, 25], [25, 34]), ([30, 35, 25, 25], [25, 30, 35]), ([36, 25], [25, 36]), ([25, 37], [25, 37])])
def spec_l6Same.B3 : List Nat := [0, 1, 3, 7, 0, 16, 48, 112, 255, 511, 1023, 2047, 4095, 1023, 9215, 25599, 65535, 131071, 262143, 524287, 1048575, 1048575, 4194303, 8388607, 16777215, 33554431, 67108863, 134217727, 268435455, 536870911, 1073741823, 67108863, 2214592511, 6509559807, 15099494399, 32279363583, 68719476735, 137438953471, 274877906943]
theorem spec_l6Same.tab3 : rtab .any (opsOf Try.f11 3) = spec_l6Same.T3 := by kernel_rfl
theorem spec_l6Same.bits3 : waitsOk spec_l6Same.T3.2 spec_l6Same.B3 = true := by kernel_rfl
def spec_l6Same.T5 : Bool × List (List Nat × List Nat) := (true, [([], []), ([0], [0]), ([1], [1]), ([2], [2]), ([], []), ([4], [4]), ([5], [5]), ([6], [6]), ([3, 7], [3, 7]), ([8], [8]), ([9], [9]), ([10, 9], [9, 10]), ([11, 9], [9, 11]), ([12, 9], [9, 12]), ([9], [9]), ([14, 9], [9, 14]), ([15, 9], [9, 15]), ([16, 9], [9, 16]), ([13, 17, 9], [9, 13, 17]), ([9, 18], [9, 18]), ([19, 9], [19]), ([20], [20]), ([21, 20], [20, 21]), ([22, 20], [20, 22]), ([23, 20], [20, 23]), ([20], [20]), ([25, 20], [20, 25]), ([26, 20], [20, 26]), ([27, 20], [20, 27]), ([24, 28, 20], [20, 24, 28]), ([20, 29], [20, 29]), ([30, 20], [30]), ([31], [31]), ([32, 31], [31, 32]), ([33, 31], [31, 33]), ([34, 31], [31, 34]), ([31], [31]), ([36, 31], [31, 36]), ([37, 31], [31, 37]), ([38, 31], [31, 38]), ([35, 39, 31], [31, 35, 39]), ([31, 40], [31, 40]), ([41, 31, 0, 1, 2, 3, 4, 5, 6, 7, 8, 9, 10, 11, 12, 13, 14, 15, 16, 17, 18, 19, 20, 21, 22, 23, 24, 25, 26, 27, 28, 29, 30, 31, 32, 33, 34, 35, 36, 37, 38, 39, 40, 41], [41])])
def spec_l6Same.B5 : List Nat := [0, 1, 3, 7, 0, 16, 48, 112, 255, 511, 1023, 2047, 4095, 8191, 1023, 17407, 50175, 115711, 262143, 524287, 1048575, 2097151, 4194303, 8388607, 16777215, 2097151, 35651583, 102760447, 236978175, 536870911, 1073741823, 2147483647, 4294967295, 8589934591, 17179869183, 34359738367, 4294967295, 73014444031, 210453397503, 485331304447, 1099511627775, 2199023255551, 4398046511103]
theorem spec_l6Same.tab5 : rtab .any (opsOf Try.f11 5) = spec_l6Same.T5 := by kernel_rfl
theorem spec_l6Same.bits5 : waitsOk spec_l6Same.T5.2 spec_l6Same.B5 = true := by kernel_rfl
set_option maxHeartbeats 8000000 in
set_option maxRecDepth 100000 in
theorem spec_l6Same.calls (k : Nat) (gp0 : Nat) (a0_0 : Int) (a0_1 : Int) (a0_2 : Int) (a0_3 : Int) (a0_4 : Int) (a0_5 : Bool) (A0_6 : Option Addr) (c0_6 : Nat) (l0_6 : List Int) (a0_7 : Int) (a0_8 : Int) (A0_9 : Option Addr) (c0_9 : Nat) (l0_9 : List (S74)) (A0_10 : Option Addr) (c0_10 : Nat) (l0_10 : List (S74)) (a0_11 : Int) (a0_12 : Int) (a0_13 : Bool) (a0_14 : Int) (a0_15 : Int) (a0_16 : Int) (a0_17 : Bool) (a0_18 : Bool) (a0_19 : Bool) (A0_20 : Option Addr) (c0_20 : Nat) (l0_20 : List Bool) (a0_21 : Int) (a0_22 : Int) (a0_23 : Int) (A0_24 : Option Addr) (c0_24 : Nat) (l0_24 : List Int) (a0_25 : Int) (a0_26 : Int) (gp1 : Nat) (a1_0 : Int) (a1_1 : Int) (a1_2 : Int) (a1_3 : Int) (a1_4 : Int) (a1_5 : Bool) (A1_6 : Option Addr) (c1_6 : Nat) (l1_6 : List Int) (a1_7 : Int) (a1_8 : Int) (A1_9 : Option Addr) (c1_9 : Nat) (l1_9 : List (S74)) (A1_10 : Option Addr) (c1_10 : Nat) (l1_10 : List (S74)) (a1_11 : Int) (a1_12 : Int) (a1_13 : Bool) (a1_14 : Int) (a1_15 : Int) (a1_16 : Int) (a1_17 : Bool) (a1_18 : Bool) (a1_19 : Bool) (A1_20 : Option Addr) (c1_20 : Nat) (l1_20 : List Bool) (a1_21 : Int) (a1_22 : Int) (a1_23 : Int) (A1_24 : Option Addr) (c1_24 : Nat) (l1_24 : List Int) (a1_25 : Int) (a1_26 : Int) (r : Bool) (w : World) (hp0 : w.heap[gp0]? = some (.cells #[.int .i64 a0_0, .int .i64 a0_1, .int .i64 a0_2, .int .i64 a0_3, .int .i64 a0_4, .bool a0_5, .slice A0_6 l0_6.length c0_6, .int .i64 a0_7, .int .i64 a0_8, .slice A0_9 l0_9.length c0_9, .slice A0_10 l0_10.length c0_10, .int .i64 a0_11, .int .i64 a0_12, .bool a0_13, .int .i64 a0_14, .int .i64 a0_15, .int .i64 a0_16, .bool a0_17, .bool a0_18, .bool a0_19, .slice A0_20 l0_20.length c0_20, .int .i64 a0_21, .int .i64 a0_22, .int .i64 a0_23, .slice A0_24 l0_24.length c0_24, .int .i64 a0_25, .int .i64 a0_26] 45 (0, 0))) (hr0_6 : Kd.C (Kd.int .i64) w A0_6 l0_6.length l0_6) (hc0_6 : l0_6.length ≤ c0_6) (hr0_9 : Kd.C k74 w A0_9 l0_9.length l0_9) (hc0_9 : l0_9.length ≤ c0_9) (hr0_10 : Kd.C k74 w A0_10 l0_10.length l0_10) (hc0_10 : l0_10.length ≤ c0_10) (hr0_20 : Kd.C Kd.bool w A0_20 l0_20.length l0_20) (hc0_20 : l0_20.length ≤ c0_20) (hr0_24 : Kd.C (Kd.int .i64) w A0_24 l0_24.length l0_24) (hc0_24 : l0_24.length ≤ c0_24) (hp1 : w.heap[gp1]? = some (.cells #[.int .i64 a1_0, .int .i64 a1_1, .int .i64 a1_2, .int .i64 a1_3, .int .i64 a1_4, .bool a1_5, .slice A1_6 l1_6.length c1_6, .int .i64 a1_7, .int .i64 a1_8, .slice A1_9 l1_9.length c1_9, .slice A1_10 l1_10.length c1_10, .int .i64 a1_11, .int .i64 a1_12, .bool a1_13, .int .i64 a1_14, .int .i64 a1_15, .int .i64 a1_16, .bool a1_17, .bool a1_18, .bool a1_19, .slice A1_20 l1_20.length c1_20, .int .i64 a1_21, .int .i64 a1_22, .int .i64 a1_23, .slice A1_24 l1_24.length c1_24, .int .i64 a1_25, .int .i64 a1_26] 45 (0, 0))) (hr1_6 : Kd.C (Kd.int .i64) w A1_6 l1_6.length l1_6) (hc1_6 : l1_6.length ≤ c1_6) (hr1_9 : Kd.C k74 w A1_9 l1_9.length l1_9) (hc1_9 : l1_9.length ≤ c1_9) (hr1_10 : Kd.C k74 w A1_10 l1_10.length l1_10) (hc1_10 : l1_10.length ≤ c1_10) (hr1_20 : Kd.C Kd.bool w A1_20 l1_20.length l1_20) (hc1_20 : l1_20.length ≤ c1_20) (hr1_24 : Kd.C (Kd.int .i64) w A1_24 l1_24.length l1_24) (hc1_24 : l1_24.length ≤ c1_24) (h : spec_l6Same.f k a0_0 a0_1 a0_2 a0_3 a0_4 a0_5 l0_6 a0_7 a0_8 l0_9 l0_10 a0_11 a0_12 a0_13 a0_14 a0_15 a0_16 a0_17 a0_18 a0_19 l0_20 a0_21 a0_22 a0_23 l0_24 a0_25 a0_26 a1_0 a1_1 a1_2 a1_3 a1_4 a1_5 l1_6 a1_7 a1_8 l1_9 l1_10 a1_11 a1_12 a1_13 a1_14 a1_15 a1_16 a1_17 a1_18 a1_19 l1_20 a1_21 a1_22 a1_23 l1_24 a1_25 a1_26 = some r) :
  Calls Try.prog 11 #[.pointer (some ⟨gp0, 0, none⟩), .pointer (some ⟨gp1, 0, none⟩)] w fun e w' => e = .returned (.bool r) ∧ Below w.heap.size w w' := by
 have hu37 := Try.underlying37
 have HR0_6 := Aside0.mk hr0_6
 have HC0_6 := Aside0.mk hc0_6
 clear hr0_6 hc0_6
 have HR0_9 := Aside0.mk hr0_9
 have HC0_9 := Aside0.mk hc0_9
 clear hr0_9 hc0_9
 have HR0_10 := Aside0.mk hr0_10
 have HC0_10 := Aside0.mk hc0_10
 clear hr0_10 hc0_10
 have HR0_20 := Aside0.mk hr0_20
 have HC0_20 := Aside0.mk hc0_20
 clear hr0_20 hc0_20
 have HR0_24 := Aside0.mk hr0_24
 have HC0_24 := Aside0.mk hc0_24
 clear hr0_24 hc0_24
 have HR1_6 := Aside0.mk hr1_6
 have HC1_6 := Aside0.mk hc1_6
 clear hr1_6 hc1_6
 have HR1_9 := Aside0.mk hr1_9
 have HC1_9 := Aside0.mk hc1_9
 clear hr1_9 hc1_9
 have HR1_10 := Aside0.mk hr1_10
 have HC1_10 := Aside0.mk hc1_10
 clear hr1_10 hc1_10
 have HR1_20 := Aside0.mk hr1_20
 have HC1_20 := Aside0.mk hc1_20
 clear hr1_20 hc1_20
 have HR1_24 := Aside0.mk hr1_24
 have HC1_24 := Aside0.mk hc1_24
 clear hr1_24 hc1_24
 have BK50 := Aside0.mk hp0
 clear hp0
 have BK51 := Aside0.mk hp1
 clear hp1
 have HB := Aside0.mk (Below.refl w.heap.size w)
 have H : (if (!(a0_0 == a1_0) || (!(a0_1 == a1_1) || (!(a0_2 == a1_2)))) = true then (spec_l6Same.j0 k true a0_0 a0_1 a0_2 a0_3 a0_4 a0_5 l0_6 a0_7 a0_8 l0_9 l0_10 a0_11 a0_12 a0_13 a0_14 a0_15 a0_16 a0_17 a0_18 a0_19 l0_20 a0_21 a0_22 a0_23 l0_24 a0_25 a0_26 a1_0 a1_1 a1_2 a1_3 a1_4 a1_5 l1_6 a1_7 a1_8 l1_9 l1_10 a1_11 a1_12 a1_13 a1_14 a1_15 a1_16 a1_17 a1_18 a1_19 l1_20 a1_21 a1_22 a1_23 l1_24 a1_25 a1_26) else ((spec_l4Same.f k a0_3 a0_4 a0_5 l0_6 a1_3 a1_4 a1_5 l1_6).bind fun t123 => (if t123 = true then ((spec_l5Shown.f k a0_7 a0_8 l0_9 l0_10 a0_11 a0_12 a0_13 a0_14 a0_15 a0_16 a0_17 a0_18 a0_19 l0_20 a0_21 a0_22 a0_23 l0_24 a0_25 a0_26 a1_7 a1_8 l1_9 l1_10 a1_11 a1_12 a1_13 a1_14 a1_15 a1_16 a1_17 a1_18 a1_19 l1_20 a1_21 a1_22 a1_23 l1_24 a1_25 a1_26).bind fun t124 => (if t124 = true then ((spec_l3SameCells.f k l0_10 l1_10).bind fun t125 => (spec_l6Same.j0 k (!t125) a0_0 a0_1 a0_2 a0_3 a0_4 a0_5 l0_6 a0_7 a0_8 l0_9 l0_10 a0_11 a0_12 a0_13 a0_14 a0_15 a0_16 a0_17 a0_18 a0_19 l0_20 a0_21 a0_22 a0_23 l0_24 a0_25 a0_26 a1_0 a1_1 a1_2 a1_3 a1_4 a1_5 l1_6 a1_7 a1_8 l1_9 l1_10 a1_11 a1_12 a1_13 a1_14 a1_15 a1_16 a1_17 a1_18 a1_19 l1_20 a1_21 a1_22 a1_23 l1_24 a1_25 a1_26)) else (spec_l6Same.j0 k true a0_0 a0_1 a0_2 a0_3 a0_4 a0_5 l0_6 a0_7 a0_8 l0_9 l0_10 a0_11 a0_12 a0_13 a0_14 a0_15 a0_16 a0_17 a0_18 a0_19 l0_20 a0_21 a0_22 a0_23 l0_24 a0_25 a0_26 a1_0 a1_1 a1_2 a1_3 a1_4 a1_5 l1_6 a1_7 a1_8 l1_9 l1_10 a1_11 a1_12 a1_13 a1_14 a1_15 a1_16 a1_17 a1_18 a1_19 l1_20 a1_21 a1_22 a1_23 l1_24 a1_25 a1_26))) else (spec_l6Same.j0 k true a0_0 a0_1 a0_2 a0_3 a0_4 a0_5 l0_6 a0_7 a0_8 l0_9 l0_10 a0_11 a0_12 a0_13 a0_14 a0_15 a0_16 a0_17 a0_18 a0_19 l0_20 a0_21 a0_22 a0_23 l0_24 a0_25 a0_26 a1_0 a1_1 a1_2 a1_3 a1_4 a1_5 l1_6 a1_7 a1_8 l1_9 l1_10 a1_11 a1_12 a1_13 a1_14 a1_15 a1_16 a1_17 a1_18 a1_19 l1_20 a1_21 a1_22 a1_23 l1_24 a1_25 a1_26)))) = some r := h
 clear h
 have HC3 := Aside0.mk H
 clear H
 go_enter Try.func11, Try.ntmps11
 go_upto_region 3 with (fail)
 go_cut [51] (fun v51 wc => ∃ (kq : Nat) (x51_2 : Bool), v51 = .bool x51_2 ∧ Aside0 (spec_l6Same.j0 kq x51_2 a0_0 a0_1 a0_2 a0_3 a0_4 a0_5 l0_6 a0_7 a0_8 l0_9 l0_10 a0_11 a0_12 a0_13 a0_14 a0_15 a0_16 a0_17 a0_18 a0_19 l0_20 a0_21 a0_22 a0_23 l0_24 a0_25 a0_26 a1_0 a1_1 a1_2 a1_3 a1_4 a1_5 l1_6 a1_7 a1_8 l1_9 l1_10 a1_11 a1_12 a1_13 a1_14 a1_15 a1_16 a1_17 a1_18 a1_19 l1_20 a1_21 a1_22 a1_23 l1_24 a1_25 a1_26 = some r) ∧ Aside0 (kq ≤ k) ∧ Aside0 (wc.heap[gp0]? = some (.cells #[.int .i64 a0_0, .int .i64 a0_1, .int .i64 a0_2, .int .i64 a0_3, .int .i64 a0_4, .bool a0_5, (.slice A0_6 l0_6.length c0_6), .int .i64 a0_7, .int .i64 a0_8, (.slice A0_9 l0_9.length c0_9), (.slice A0_10 l0_10.length c0_10), .int .i64 a0_11, .int .i64 a0_12, .bool a0_13, .int .i64 a0_14, .int .i64 a0_15, .int .i64 a0_16, .bool a0_17, .bool a0_18, .bool a0_19, (.slice A0_20 l0_20.length c0_20), .int .i64 a0_21, .int .i64 a0_22, .int .i64 a0_23, (.slice A0_24 l0_24.length c0_24), .int .i64 a0_25, .int .i64 a0_26] 45 (0, 0))) ∧ Aside0 (wc.heap[gp1]? = some (.cells #[.int .i64 a1_0, .int .i64 a1_1, .int .i64 a1_2, .int .i64 a1_3, .int .i64 a1_4, .bool a1_5, (.slice A1_6 l1_6.length c1_6), .int .i64 a1_7, .int .i64 a1_8, (.slice A1_9 l1_9.length c1_9), (.slice A1_10 l1_10.length c1_10), .int .i64 a1_11, .int .i64 a1_12, .bool a1_13, .int .i64 a1_14, .int .i64 a1_15, .int .i64 a1_16, .bool a1_17, .bool a1_18, .bool a1_19, (.slice A1_20 l1_20.length c1_20), .int .i64 a1_21, .int .i64 a1_22, .int .i64 a1_23, (.slice A1_24 l1_24.length c1_24), .int .i64 a1_25, .int .i64 a1_26] 45 (0, 0))) ∧ Aside0 (Below w.heap.size w wc))
 case first =>
  have H := HC3.out
  clear HC3
  by_cases c4 : (!(a0_0 == a1_0) || (!(a0_1 == a1_1) || (!(a0_2 == a1_2)))) = true
  ·rw [if_pos c4] at H
   have c4b0 : (!(a0_0 == a1_0) || (!(a0_1 == a1_1) || (!(a0_2 == a1_2)))) = true := c4
   clear c4
   (first | rw [c4b0] | (simp only [i64_w, i32_w]; rw [c4b0]) | skip)
   have H' := Aside0.mk H
   clear H
   try go_wp2
   have n0_ := Aside0.mk (blk_drew BK50.out)
   have n1_ := Aside0.mk (blk_drew BK51.out)
   have n2_ := Aside0.mk (below_drew1 HB.out)
   clear BK50
   clear BK51
   clear HB
   have BK50 := n0_
   have BK51 := n1_
   have HB := n2_
   clear n0_ n1_ n2_
   as_aux_lemma =>
   refine st2 BK50.out BK51.out (bA 39 0) (by kernel_rfl) rfl rfl (fun hHeld => ?_); refine with_tabW spec_l6Same.tab3 spec_l6Same.bits3 (fun HT_ HW_ => ?_)
   generalize w.drew = w5 at BK50 BK51 HB hHeld ⊢
   refine pu 0 13 (bA 39 1) HT_ ?_
   refine pu 1 14 (bA 39 3) HT_ ?_
   refine pu 2 15 (bA 39 7) HT_ ?_
   refine pu 4 17 (bA 39 23) HT_ ?_
   refine pu 5 18 (bA 39 55) HT_ ?_
   refine pu 6 19 (bA 39 119) HT_ ?_
   refine tb 3 16 (bA 39 127) HT_ HW_ hHeld ?_
   refine tb 7 20 (bA 39 255) HT_ HW_ hHeld ?_
   refine pu 8 21 (bA 39 511) HT_ ?_
   refine pu 9 22 (bA 39 1023) HT_ ?_
   refine pn 10 23 (bA 39 2047) HT_ ?_
   refine pn 11 24 (bA 39 4095) HT_ ?_
   refine pn 12 25 (bA 39 8191) HT_ ?_
   refine pn 13 26 (bA 39 16383) HT_ ?_
   refine pn 14 27 (bA 39 32767) HT_ ?_
   refine pn 15 28 (bA 39 65535) HT_ ?_
   refine pn 16 29 (bA 39 131071) HT_ ?_
   refine pn 17 30 (bA 39 262143) HT_ ?_
   refine pu 18 31 (bA 39 524287) HT_ ?_
   refine pu 19 32 (bA 39 1048575) HT_ ?_
   refine pn 20 33 (bA 39 2097151) HT_ ?_
   refine pn 21 34 (bA 39 4194303) HT_ ?_
   refine pn 22 35 (bA 39 8388607) HT_ ?_
   refine pn 23 36 (bA 39 16777215) HT_ ?_
   refine pu 24 37 (bA 39 33554431) HT_ ?_
   refine pu 25 38 (bA 39 67108863) HT_ ?_
   refine pn 26 39 (bA 39 134217727) HT_ ?_
   refine pn 27 40 (bA 39 268435455) HT_ ?_
   refine pn 28 41 (bA 39 536870911) HT_ ?_
   refine pn 29 42 (bA 39 1073741823) HT_ ?_
   refine pn 30 43 (bA 39 2147483647) HT_ ?_
   refine pn 31 44 (bA 39 4294967295) HT_ ?_
   refine pn 32 45 (bA 39 8589934591) HT_ ?_
   refine pn 33 46 (bA 39 17179869183) HT_ ?_
   refine pn 34 47 (bA 39 34359738367) HT_ ?_
   refine pn 35 48 (bA 39 68719476735) HT_ ?_
   refine pn 36 49 (bA 39 137438953471) HT_ ?_
   refine pn 37 50 (bA 39 274877906943) HT_ ?_
   refine pu 38 51 (bA 39 549755813887) HT_ ?_
   refine done_ (done_of HT_.out (by kernel_rfl)) ?_
   try go_wp2
   go_meet
   case rel => exact ⟨_, (true), (by first | rfl | (simp; done) | (simp [*]; done)), H', ⟨by first | omega | exact Nat.le_refl _⟩, ⟨pl BK50.out⟩, ⟨pl BK51.out⟩, ⟨be HB.out⟩⟩
  ·rw [if_neg c4] at H
   have c4b0 : (!(a0_0 == a1_0) || (!(a0_1 == a1_1) || (!(a0_2 == a1_2)))) = false := by simpa using c4
   clear c4
   (first | rw [c4b0] | (simp only [i64_w, i32_w]; rw [c4b0]) | skip)
   replace H := Option.bind_eq_some_iff.mp H
   obtain ⟨t123, A60, H⟩ := H
   replace H : (if t123 = true then ((spec_l5Shown.f k a0_7 a0_8 l0_9 l0_10 a0_11 a0_12 a0_13 a0_14 a0_15 a0_16 a0_17 a0_18 a0_19 l0_20 a0_21 a0_22 a0_23 l0_24 a0_25 a0_26 a1_7 a1_8 l1_9 l1_10 a1_11 a1_12 a1_13 a1_14 a1_15 a1_16 a1_17 a1_18 a1_19 l1_20 a1_21 a1_22 a1_23 l1_24 a1_25 a1_26).bind fun t124 => (if t124 = true then ((spec_l3SameCells.f k l0_10 l1_10).bind fun t125 => (spec_l6Same.j0 k (!t125) a0_0 a0_1 a0_2 a0_3 a0_4 a0_5 l0_6 a0_7 a0_8 l0_9 l0_10 a0_11 a0_12 a0_13 a0_14 a0_15 a0_16 a0_17 a0_18 a0_19 l0_20 a0_21 a0_22 a0_23 l0_24 a0_25 a0_26 a1_0 a1_1 a1_2 a1_3 a1_4 a1_5 l1_6 a1_7 a1_8 l1_9 l1_10 a1_11 a1_12 a1_13 a1_14 a1_15 a1_16 a1_17 a1_18 a1_19 l1_20 a1_21 a1_22 a1_23 l1_24 a1_25 a1_26)) else (spec_l6Same.j0 k true a0_0 a0_1 a0_2 a0_3 a0_4 a0_5 l0_6 a0_7 a0_8 l0_9 l0_10 a0_11 a0_12 a0_13 a0_14 a0_15 a0_16 a0_17 a0_18 a0_19 l0_20 a0_21 a0_22 a0_23 l0_24 a0_25 a0_26 a1_0 a1_1 a1_2 a1_3 a1_4 a1_5 l1_6 a1_7 a1_8 l1_9 l1_10 a1_11 a1_12 a1_13 a1_14 a1_15 a1_16 a1_17 a1_18 a1_19 l1_20 a1_21 a1_22 a1_23 l1_24 a1_25 a1_26))) else (spec_l6Same.j0 k true a0_0 a0_1 a0_2 a0_3 a0_4 a0_5 l0_6 a0_7 a0_8 l0_9 l0_10 a0_11 a0_12 a0_13 a0_14 a0_15 a0_16 a0_17 a0_18 a0_19 l0_20 a0_21 a0_22 a0_23 l0_24 a0_25 a0_26 a1_0 a1_1 a1_2 a1_3 a1_4 a1_5 l1_6 a1_7 a1_8 l1_9 l1_10 a1_11 a1_12 a1_13 a1_14 a1_15 a1_16 a1_17 a1_18 a1_19 l1_20 a1_21 a1_22 a1_23 l1_24 a1_25 a1_26)) = some r := H
   have A6 := Aside0.mk A60
   clear A60
   by_cases c7 : t123 = true
   ·subst c7
    have H1 : ((spec_l5Shown.f k a0_7 a0_8 l0_9 l0_10 a0_11 a0_12 a0_13 a0_14 a0_15 a0_16 a0_17 a0_18 a0_19 l0_20 a0_21 a0_22 a0_23 l0_24 a0_25 a0_26 a1_7 a1_8 l1_9 l1_10 a1_11 a1_12 a1_13 a1_14 a1_15 a1_16 a1_17 a1_18 a1_19 l1_20 a1_21 a1_22 a1_23 l1_24 a1_25 a1_26).bind fun t124 => (if t124 = true then ((spec_l3SameCells.f k l0_10 l1_10).bind fun t125 => (spec_l6Same.j0 k (!t125) a0_0 a0_1 a0_2 a0_3 a0_4 a0_5 l0_6 a0_7 a0_8 l0_9 l0_10 a0_11 a0_12 a0_13 a0_14 a0_15 a0_16 a0_17 a0_18 a0_19 l0_20 a0_21 a0_22 a0_23 l0_24 a0_25 a0_26 a1_0 a1_1 a1_2 a1_3 a1_4 a1_5 l1_6 a1_7 a1_8 l1_9 l1_10 a1_11 a1_12 a1_13 a1_14 a1_15 a1_16 a1_17 a1_18 a1_19 l1_20 a1_21 a1_22 a1_23 l1_24 a1_25 a1_26)) else (spec_l6Same.j0 k true a0_0 a0_1 a0_2 a0_3 a0_4 a0_5 l0_6 a0_7 a0_8 l0_9 l0_10 a0_11 a0_12 a0_13 a0_14 a0_15 a0_16 a0_17 a0_18 a0_19 l0_20 a0_21 a0_22 a0_23 l0_24 a0_25 a0_26 a1_0 a1_1 a1_2 a1_3 a1_4 a1_5 l1_6 a1_7 a1_8 l1_9 l1_10 a1_11 a1_12 a1_13 a1_14 a1_15 a1_16 a1_17 a1_18 a1_19 l1_20 a1_21 a1_22 a1_23 l1_24 a1_25 a1_26))) = some r := by rw [if_pos rfl] at H; exact H
    clear H
    have H := H1
    clear H1
    replace H := Option.bind_eq_some_iff.mp H
    obtain ⟨t124, A80, H⟩ := H
    replace H : (if t124 = true then ((spec_l3SameCells.f k l0_10 l1_10).bind fun t125 => (spec_l6Same.j0 k (!t125) a0_0 a0_1 a0_2 a0_3 a0_4 a0_5 l0_6 a0_7 a0_8 l0_9 l0_10 a0_11 a0_12 a0_13 a0_14 a0_15 a0_16 a0_17 a0_18 a0_19 l0_20 a0_21 a0_22 a0_23 l0_24 a0_25 a0_26 a1_0 a1_1 a1_2 a1_3 a1_4 a1_5 l1_6 a1_7 a1_8 l1_9 l1_10 a1_11 a1_12 a1_13 a1_14 a1_15 a1_16 a1_17 a1_18 a1_19 l1_20 a1_21 a1_22 a1_23 l1_24 a1_25 a1_26)) else (spec_l6Same.j0 k true a0_0 a0_1 a0_2 a0_3 a0_4 a0_5 l0_6 a0_7 a0_8 l0_9 l0_10 a0_11 a0_12 a0_13 a0_14 a0_15 a0_16 a0_17 a0_18 a0_19 l0_20 a0_21 a0_22 a0_23 l0_24 a0_25 a0_26 a1_0 a1_1 a1_2 a1_3 a1_4 a1_5 l1_6 a1_7 a1_8 l1_9 l1_10 a1_11 a1_12 a1_13 a1_14 a1_15 a1_16 a1_17 a1_18 a1_19 l1_20 a1_21 a1_22 a1_23 l1_24 a1_25 a1_26)) = some r := H
    have A8 := Aside0.mk A80
    clear A80
    by_cases c9 : t124 = true
    ·subst c9
     have H1 : ((spec_l3SameCells.f k l0_10 l1_10).bind fun t125 => (spec_l6Same.j0 k (!t125) a0_0 a0_1 a0_2 a0_3 a0_4 a0_5 l0_6 a0_7 a0_8 l0_9 l0_10 a0_11 a0_12 a0_13 a0_14 a0_15 a0_16 a0_17 a0_18 a0_19 l0_20 a0_21 a0_22 a0_23 l0_24 a0_25 a0_26 a1_0 a1_1 a1_2 a1_3 a1_4 a1_5 l1_6 a1_7 a1_8 l1_9 l1_10 a1_11 a1_12 a1_13 a1_14 a1_15 a1_16 a1_17 a1_18 a1_19 l1_20 a1_21 a1_22 a1_23 l1_24 a1_25 a1_26)) = some r := by rw [if_pos rfl] at H; exact H
     clear H
     have H := H1
     clear H1
     replace H := Option.bind_eq_some_iff.mp H
     obtain ⟨t125, A100, H⟩ := H
     replace H : (spec_l6Same.j0 k (!t125) a0_0 a0_1 a0_2 a0_3 a0_4 a0_5 l0_6 a0_7 a0_8 l0_9 l0_10 a0_11 a0_12 a0_13 a0_14 a0_15 a0_16 a0_17 a0_18 a0_19 l0_20 a0_21 a0_22 a0_23 l0_24 a0_25 a0_26 a1_0 a1_1 a1_2 a1_3 a1_4 a1_5 l1_6 a1_7 a1_8 l1_9 l1_10 a1_11 a1_12 a1_13 a1_14 a1_15 a1_16 a1_17 a1_18 a1_19 l1_20 a1_21 a1_22 a1_23 l1_24 a1_25 a1_26) = some r := H
     have A10 := Aside0.mk A100
     clear A100
     have H' := Aside0.mk H
     clear H
     try go_wp2
     have n0_ := Aside0.mk (blk_drew BK50.out)
     have n1_ := Aside0.mk (blk_drew BK51.out)
     have n2_ := Aside0.mk (below_drew1 HB.out)
     clear BK50
     clear BK51
     clear HB
     have BK50 := n0_
     have BK51 := n1_
     have HB := n2_
     clear n0_ n1_ n2_
     as_aux_lemma =>
     refine st2 BK50.out BK51.out (bA 39 0) (by kernel_rfl) rfl rfl (fun hHeld => ?_); refine with_tabW spec_l6Same.tab3 spec_l6Same.bits3 (fun HT_ HW_ => ?_)
     generalize w.drew = w11 at BK50 BK51 HB hHeld ⊢
     refine pu 0 13 (bA 39 1) HT_ ?_
     refine pu 1 14 (bA 39 3) HT_ ?_
     refine pu 2 15 (bA 39 7) HT_ ?_
     refine pu 4 17 (bA 39 23) HT_ ?_
     refine pu 5 18 (bA 39 55) HT_ ?_
     refine pu 6 19 (bA 39 119) HT_ ?_
     refine tb 3 16 (bA 39 127) HT_ HW_ hHeld ?_
     refine tb 7 20 (bA 39 255) HT_ HW_ hHeld ?_
     refine pu 8 21 (bA 39 511) HT_ ?_
     refine pu 9 22 (bA 39 1023) HT_ ?_
     refine pu 10 23 (bA 39 2047) HT_ ?_
     refine pu 11 24 (bA 39 4095) HT_ ?_
     refine pu 12 25 (bA 39 8191) HT_ ?_
     refine pu 13 26 (bA 39 16383) HT_ ?_
     refine pu 14 27 (bA 39 32767) HT_ ?_
     refine pu 15 28 (bA 39 65535) HT_ ?_
     refine one_ (i := 16) (N := some 29) (bA 39 131071) rfl rfl (one_of HT_.out (by kernel_rfl)) (by decide) (fun K hK => ?_)
     refine goes_ Try.func23 (by kernel_rfl) rfl #[.pointer (some ⟨gp0, 3, none⟩), .pointer (some ⟨gp1, 3, none⟩)] (by rfl) rfl rfl (by (try simp only [List.map_toArray, List.map_cons, List.map_nil]); first | done | rfl | (simp only [List.length_drop, List.length_take]; rfl)) ?_
     with_reducible refine (spec_l4Same.calls k gp0 (.int .i64 a0_0) (.int .i64 a0_1) (.int .i64 a0_2) (.int .i64 a0_7) (.int .i64 a0_8) (.slice A0_9 l0_9.length c0_9) (.slice A0_10 l0_10.length c0_10) (.int .i64 a0_11) (.int .i64 a0_12) (.bool a0_13) (.int .i64 a0_14) (.int .i64 a0_15) (.int .i64 a0_16) (.bool a0_17) (.bool a0_18) (.bool a0_19) (.slice A0_20 l0_20.length c0_20) (.int .i64 a0_21) (.int .i64 a0_22) (.int .i64 a0_23) (.slice A0_24 l0_24.length c0_24) (.int .i64 a0_25) (.int .i64 a0_26) a0_3 a0_4 a0_5 A0_6 c0_6 l0_6 gp1 (.int .i64 a1_0) (.int .i64 a1_1) (.int .i64 a1_2) (.int .i64 a1_7) (.int .i64 a1_8) (.slice A1_9 l1_9.length c1_9) (.slice A1_10 l1_10.length c1_10) (.int .i64 a1_11) (.int .i64 a1_12) (.bool a1_13) (.int .i64 a1_14) (.int .i64 a1_15) (.int .i64 a1_16) (.bool a1_17) (.bool a1_18) (.bool a1_19) (.slice A1_20 l1_20.length c1_20) (.int .i64 a1_21) (.int .i64 a1_22) (.int .i64 a1_23) (.slice A1_24 l1_24.length c1_24) (.int .i64 a1_25) (.int .i64 a1_26) a1_3 a1_4 a1_5 A1_6 c1_6 l1_6 true _ ?side1 ?side2 ?side3 ?side4 ?side5 ?side6 A6.out).mono ?_
     (case side1 => exact (pl BK50.out))
     (case side2 => exact kc HR0_6.out HB.out)
     (case side3 => exact HC0_6.out)
     (case side4 => exact (pl BK51.out))
     (case side5 => exact kc HR1_6.out HB.out)
     (case side6 => exact HC1_6.out)
     rintro e w12 ⟨rfl, hb⟩
     refine ⟨_, rfl, ?_⟩
     have n0_ := Aside0.mk (blkb hb BK50.out)
     have n1_ := Aside0.mk (blkb hb BK51.out)
     have n2_ := Aside0.mk (below_step (be HB.out) hb)
     clear BK50
     clear BK51
     clear HB
     have BK50 := n0_
     have BK51 := n1_
     have HB := n2_
     clear n0_ n1_ n2_
     (try clear hb)
     (try clear hb2)
     (try clear hk)
     (try clear hi)
     refine hK.out _ _ ⟨BK50.out, BK51.out⟩ (fun hHeld => ?_)
     clear hK K
     refine norm_ (a' := ?_) ?_ ?_
     rotate_left
     ·show Act.put _ (some 29) _ = _
      simp only [Act.put, List.setIfInBounds_toArray, List.set_cons_zero, List.set_cons_succ, i64_w, i32_w]
      rfl
     refine pu 17 30 (bA 39 262143) HT_ ?_
     refine pu 18 31 (bA 39 524287) HT_ ?_
     refine pu 19 32 (bA 39 1048575) HT_ ?_
     refine pu 20 33 (bA 39 2097151) HT_ ?_
     refine pu 21 34 (bA 39 4194303) HT_ ?_
     refine one_ (i := 22) (N := some 35) (bA 39 8388607) rfl rfl (one_of HT_.out (by kernel_rfl)) (by decide) (fun K hK => ?_)
     refine goes_ Try.func24 (by kernel_rfl) rfl #[.pointer (some ⟨gp0, 7, none⟩), .pointer (some ⟨gp1, 7, none⟩)] (by rfl) rfl rfl (by (try simp only [List.map_toArray, List.map_cons, List.map_nil]); first | done | rfl | (simp only [List.length_drop, List.length_take]; rfl)) ?_
     with_reducible refine (spec_l5Shown.calls k gp0 (.int .i64 a0_0) (.int .i64 a0_1) (.int .i64 a0_2) (.int .i64 a0_3) (.int .i64 a0_4) (.bool a0_5) (.slice A0_6 l0_6.length c0_6) a0_7 a0_8 A0_9 c0_9 l0_9 A0_10 c0_10 l0_10 a0_11 a0_12 a0_13 a0_14 a0_15 a0_16 a0_17 a0_18 a0_19 A0_20 c0_20 l0_20 a0_21 a0_22 a0_23 A0_24 c0_24 l0_24 a0_25 a0_26 gp1 (.int .i64 a1_0) (.int .i64 a1_1) (.int .i64 a1_2) (.int .i64 a1_3) (.int .i64 a1_4) (.bool a1_5) (.slice A1_6 l1_6.length c1_6) a1_7 a1_8 A1_9 c1_9 l1_9 A1_10 c1_10 l1_10 a1_11 a1_12 a1_13 a1_14 a1_15 a1_16 a1_17 a1_18 a1_19 A1_20 c1_20 l1_20 a1_21 a1_22 a1_23 A1_24 c1_24 l1_24 a1_25 a1_26 true _ ?side1 ?side2 ?side3 ?side4 ?side5 ?side6 ?side7 ?side8 ?side9 ?side10 ?side11 ?side12 ?side13 ?side14 ?side15 ?side16 ?side17 ?side18 A8.out).mono ?_
     (case side1 => exact (pl BK50.out))
     (case side2 => exact kc HR0_9.out HB.out)
     (case side3 => exact HC0_9.out)
     (case side4 => exact kc HR0_10.out HB.out)
     (case side5 => exact HC0_10.out)
     (case side6 => exact kc HR0_20.out HB.out)
     (case side7 => exact HC0_20.out)
     (case side8 => exact kc HR0_24.out HB.out)
     (case side9 => exact HC0_24.out)
     (case side10 => exact (pl BK51.out))
     (case side11 => exact kc HR1_9.out HB.out)
     (case side12 => exact HC1_9.out)
     (case side13 => exact kc HR1_10.out HB.out)
     (case side14 => exact HC1_10.out)
     (case side15 => exact kc HR1_20.out HB.out)
     (case side16 => exact HC1_20.out)
     (case side17 => exact kc HR1_24.out HB.out)
     (case side18 => exact HC1_24.out)
     rintro e w13 ⟨rfl, hb⟩
     refine ⟨_, rfl, ?_⟩
     have n0_ := Aside0.mk (blkb hb BK50.out)
     have n1_ := Aside0.mk (blkb hb BK51.out)
     have n2_ := Aside0.mk (below_step (be HB.out) hb)
     clear BK50
     clear BK51
     clear HB
     have BK50 := n0_
     have BK51 := n1_
     have HB := n2_
     clear n0_ n1_ n2_
     (try clear hb)
     (try clear hb2)
     (try clear hk)
     (try clear hi)
     refine hK.out _ _ ⟨BK50.out, BK51.out⟩ (fun hHeld => ?_)
     clear hK K
     refine norm_ (a' := ?_) ?_ ?_
     rotate_left
     ·show Act.put _ (some 35) _ = _
      simp only [Act.put, List.setIfInBounds_toArray, List.set_cons_zero, List.set_cons_succ, i64_w, i32_w]
      rfl
     refine pu 23 36 (bA 39 16777215) HT_ ?_
     refine pu 24 37 (bA 39 33554431) HT_ ?_
     refine pu 25 38 (bA 39 67108863) HT_ ?_
     refine pu 26 39 (bA 39 134217727) HT_ ?_
     refine pu 27 40 (bA 39 268435455) HT_ ?_
     refine pu 28 41 (bA 39 536870911) HT_ ?_
     refine pu 29 42 (bA 39 1073741823) HT_ ?_
     refine pu 31 44 (bA 39 3221225471) HT_ ?_
     refine pu 32 45 (bA 39 7516192767) HT_ ?_
     refine pu 33 46 (bA 39 16106127359) HT_ ?_
     refine pu 34 47 (bA 39 33285996543) HT_ ?_
     refine tb 30 43 (bA 39 34359738367) HT_ HW_ hHeld ?_
     refine tb 35 48 (bA 39 68719476735) HT_ HW_ hHeld ?_
     refine one_ (i := 36) (N := some 49) (bA 39 137438953471) rfl rfl (one_of HT_.out (by kernel_rfl)) (by decide) (fun K hK => ?_)
     refine goes_ Try.func25 (by kernel_rfl) rfl #[.slice A0_10 l0_10.length c0_10, .slice A1_10 l1_10.length c1_10] (by rfl) rfl rfl (by (try simp only [List.map_toArray, List.map_cons, List.map_nil]); first | done | rfl | (simp only [List.length_drop, List.length_take]; rfl)) ?_
     with_reducible refine (spec_l3SameCells.calls k _ _ l0_10 _ _ l1_10 t125 _ ?side1 ?side2 ?side3 ?side4 A10.out).mono ?_
     (case side1 => exact kc HR0_10.out HB.out)
     (case side2 => exact HC0_10.out)
     (case side3 => exact kc HR1_10.out HB.out)
     (case side4 => exact HC1_10.out)
     rintro e w' ⟨rfl, ⟨nd, rfl⟩⟩
     refine ⟨_, rfl, ?_⟩
     refine hK.out _ _ ⟨BK50.out, BK51.out⟩ (fun hHeld => ?_)
     clear hK K
     refine norm_ (a' := ?_) ?_ ?_
     rotate_left
     ·show Act.put _ (some 49) _ = _
      simp only [Act.put, List.setIfInBounds_toArray, List.set_cons_zero, List.set_cons_succ, i64_w, i32_w]
      rfl
     refine pu 37 50 (bA 39 274877906943) HT_ ?_
     refine pu 38 51 (bA 39 549755813887) HT_ ?_
     refine done_ (done_of HT_.out (by kernel_rfl)) ?_
     try go_wp2
     go_meet
     case rel => exact ⟨_, (!t125), (by first | rfl | (simp; done) | (simp [*]; done)), H', ⟨by first | omega | exact Nat.le_refl _⟩, ⟨pl BK50.out⟩, ⟨pl BK51.out⟩, ⟨be HB.out⟩⟩
    ·replace c9 := Bool.eq_false_iff.mpr c9
     subst c9
     have H1 : (spec_l6Same.j0 k true a0_0 a0_1 a0_2 a0_3 a0_4 a0_5 l0_6 a0_7 a0_8 l0_9 l0_10 a0_11 a0_12 a0_13 a0_14 a0_15 a0_16 a0_17 a0_18 a0_19 l0_20 a0_21 a0_22 a0_23 l0_24 a0_25 a0_26 a1_0 a1_1 a1_2 a1_3 a1_4 a1_5 l1_6 a1_7 a1_8 l1_9 l1_10 a1_11 a1_12 a1_13 a1_14 a1_15 a1_16 a1_17 a1_18 a1_19 l1_20 a1_21 a1_22 a1_23 l1_24 a1_25 a1_26) = some r := by rw [if_neg (show ¬ (false = true) by decide)] at H; exact H
     clear H
     have H := H1
     clear H1
     have H' := Aside0.mk H
     clear H
     try go_wp2
     have n0_ := Aside0.mk (blk_drew BK50.out)
     have n1_ := Aside0.mk (blk_drew BK51.out)
     have n2_ := Aside0.mk (below_drew1 HB.out)
     clear BK50
     clear BK51
     clear HB
     have BK50 := n0_
     have BK51 := n1_
     have HB := n2_
     clear n0_ n1_ n2_
     as_aux_lemma =>
     refine st2 BK50.out BK51.out (bA 39 0) (by kernel_rfl) rfl rfl (fun hHeld => ?_); refine with_tabW spec_l6Same.tab3 spec_l6Same.bits3 (fun HT_ HW_ => ?_)
     generalize w.drew = w14 at BK50 BK51 HB hHeld ⊢
     refine pu 0 13 (bA 39 1) HT_ ?_
     refine pu 1 14 (bA 39 3) HT_ ?_
     refine pu 2 15 (bA 39 7) HT_ ?_
     refine pu 4 17 (bA 39 23) HT_ ?_
     refine pu 5 18 (bA 39 55) HT_ ?_
     refine pu 6 19 (bA 39 119) HT_ ?_
     refine tb 3 16 (bA 39 127) HT_ HW_ hHeld ?_
     refine tb 7 20 (bA 39 255) HT_ HW_ hHeld ?_
     refine pu 8 21 (bA 39 511) HT_ ?_
     refine pu 9 22 (bA 39 1023) HT_ ?_
     refine pu 10 23 (bA 39 2047) HT_ ?_
     refine pu 11 24 (bA 39 4095) HT_ ?_
     refine pu 12 25 (bA 39 8191) HT_ ?_
     refine pu 13 26 (bA 39 16383) HT_ ?_
     refine pu 14 27 (bA 39 32767) HT_ ?_
     refine pu 15 28 (bA 39 65535) HT_ ?_
     refine one_ (i := 16) (N := some 29) (bA 39 131071) rfl rfl (one_of HT_.out (by kernel_rfl)) (by decide) (fun K hK => ?_)
     refine goes_ Try.func23 (by kernel_rfl) rfl #[.pointer (some ⟨gp0, 3, none⟩), .pointer (some ⟨gp1, 3, none⟩)] (by rfl) rfl rfl (by (try simp only [List.map_toArray, List.map_cons, List.map_nil]); first | done | rfl | (simp only [List.length_drop, List.length_take]; rfl)) ?_
     with_reducible refine (spec_l4Same.calls k gp0 (.int .i64 a0_0) (.int .i64 a0_1) (.int .i64 a0_2) (.int .i64 a0_7) (.int .i64 a0_8) (.slice A0_9 l0_9.length c0_9) (.slice A0_10 l0_10.length c0_10) (.int .i64 a0_11) (.int .i64 a0_12) (.bool a0_13) (.int .i64 a0_14) (.int .i64 a0_15) (.int .i64 a0_16) (.bool a0_17) (.bool a0_18) (.bool a0_19) (.slice A0_20 l0_20.length c0_20) (.int .i64 a0_21) (.int .i64 a0_22) (.int .i64 a0_23) (.slice A0_24 l0_24.length c0_24) (.int .i64 a0_25) (.int .i64 a0_26) a0_3 a0_4 a0_5 A0_6 c0_6 l0_6 gp1 (.int .i64 a1_0) (.int .i64 a1_1) (.int .i64 a1_2) (.int .i64 a1_7) (.int .i64 a1_8) (.slice A1_9 l1_9.length c1_9) (.slice A1_10 l1_10.length c1_10) (.int .i64 a1_11) (.int .i64 a1_12) (.bool a1_13) (.int .i64 a1_14) (.int .i64 a1_15) (.int .i64 a1_16) (.bool a1_17) (.bool a1_18) (.bool a1_19) (.slice A1_20 l1_20.length c1_20) (.int .i64 a1_21) (.int .i64 a1_22) (.int .i64 a1_23) (.slice A1_24 l1_24.length c1_24) (.int .i64 a1_25) (.int .i64 a1_26) a1_3 a1_4 a1_5 A1_6 c1_6 l1_6 true _ ?side1 ?side2 ?side3 ?side4 ?side5 ?side6 A6.out).mono ?_
     (case side1 => exact (pl BK50.out))
     (case side2 => exact kc HR0_6.out HB.out)
     (case side3 => exact HC0_6.out)
     (case side4 => exact (pl BK51.out))
     (case side5 => exact kc HR1_6.out HB.out)
     (case side6 => exact HC1_6.out)
     rintro e w15 ⟨rfl, hb⟩
     refine ⟨_, rfl, ?_⟩
     have n0_ := Aside0.mk (blkb hb BK50.out)
     have n1_ := Aside0.mk (blkb hb BK51.out)
     have n2_ := Aside0.mk (below_step (be HB.out) hb)
     clear BK50
     clear BK51
     clear HB
     have BK50 := n0_
     have BK51 := n1_
     have HB := n2_
     clear n0_ n1_ n2_
     (try clear hb)
     (try clear hb2)
     (try clear hk)
     (try clear hi)
     refine hK.out _ _ ⟨BK50.out, BK51.out⟩ (fun hHeld => ?_)
     clear hK K
     refine norm_ (a' := ?_) ?_ ?_
     rotate_left
     ·show Act.put _ (some 29) _ = _
      simp only [Act.put, List.setIfInBounds_toArray, List.set_cons_zero, List.set_cons_succ, i64_w, i32_w]
      rfl
     refine pu 17 30 (bA 39 262143) HT_ ?_
     refine pu 18 31 (bA 39 524287) HT_ ?_
     refine pu 19 32 (bA 39 1048575) HT_ ?_
     refine pu 20 33 (bA 39 2097151) HT_ ?_
     refine pu 21 34 (bA 39 4194303) HT_ ?_
     refine one_ (i := 22) (N := some 35) (bA 39 8388607) rfl rfl (one_of HT_.out (by kernel_rfl)) (by decide) (fun K hK => ?_)
     refine goes_ Try.func24 (by kernel_rfl) rfl #[.pointer (some ⟨gp0, 7, none⟩), .pointer (some ⟨gp1, 7, none⟩)] (by rfl) rfl rfl (by (try simp only [List.map_toArray, List.map_cons, List.map_nil]); first | done | rfl | (simp only [List.length_drop, List.length_take]; rfl)) ?_
     with_reducible refine (spec_l5Shown.calls k gp0 (.int .i64 a0_0) (.int .i64 a0_1) (.int .i64 a0_2) (.int .i64 a0_3) (.int .i64 a0_4) (.bool a0_5) (.slice A0_6 l0_6.length c0_6) a0_7 a0_8 A0_9 c0_9 l0_9 A0_10 c0_10 l0_10 a0_11 a0_12 a0_13 a0_14 a0_15 a0_16 a0_17 a0_18 a0_19 A0_20 c0_20 l0_20 a0_21 a0_22 a0_23 A0_24 c0_24 l0_24 a0_25 a0_26 gp1 (.int .i64 a1_0) (.int .i64 a1_1) (.int .i64 a1_2) (.int .i64 a1_3) (.int .i64 a1_4) (.bool a1_5) (.slice A1_6 l1_6.length c1_6) a1_7 a1_8 A1_9 c1_9 l1_9 A1_10 c1_10 l1_10 a1_11 a1_12 a1_13 a1_14 a1_15 a1_16 a1_17 a1_18 a1_19 A1_20 c1_20 l1_20 a1_21 a1_22 a1_23 A1_24 c1_24 l1_24 a1_25 a1_26 false _ ?side1 ?side2 ?side3 ?side4 ?side5 ?side6 ?side7 ?side8 ?side9 ?side10 ?side11 ?side12 ?side13 ?side14 ?side15 ?side16 ?side17 ?side18 A8.out).mono ?_
     (case side1 => exact (pl BK50.out))
     (case side2 => exact kc HR0_9.out HB.out)
     (case side3 => exact HC0_9.out)
     (case side4 => exact kc HR0_10.out HB.out)
     (case side5 => exact HC0_10.out)
     (case side6 => exact kc HR0_20.out HB.out)
     (case side7 => exact HC0_20.out)
     (case side8 => exact kc HR0_24.out HB.out)
     (case side9 => exact HC0_24.out)
     (case side10 => exact (pl BK51.out))
     (case side11 => exact kc HR1_9.out HB.out)
     (case side12 => exact HC1_9.out)
     (case side13 => exact kc HR1_10.out HB.out)
     (case side14 => exact HC1_10.out)
     (case side15 => exact kc HR1_20.out HB.out)
     (case side16 => exact HC1_20.out)
     (case side17 => exact kc HR1_24.out HB.out)
     (case side18 => exact HC1_24.out)
     rintro e w16 ⟨rfl, hb⟩
     refine ⟨_, rfl, ?_⟩
     have n0_ := Aside0.mk (blkb hb BK50.out)
     have n1_ := Aside0.mk (blkb hb BK51.out)
     have n2_ := Aside0.mk (below_step (be HB.out) hb)
     clear BK50
     clear BK51
     clear HB
     have BK50 := n0_
     have BK51 := n1_
     have HB := n2_
     clear n0_ n1_ n2_
     (try clear hb)
     (try clear hb2)
     (try clear hk)
     (try clear hi)
     refine hK.out _ _ ⟨BK50.out, BK51.out⟩ (fun hHeld => ?_)
     clear hK K
     refine norm_ (a' := ?_) ?_ ?_
     rotate_left
     ·show Act.put _ (some 35) _ = _
      simp only [Act.put, List.setIfInBounds_toArray, List.set_cons_zero, List.set_cons_succ, i64_w, i32_w]
      rfl
     refine pu 23 36 (bA 39 16777215) HT_ ?_
     refine pu 24 37 (bA 39 33554431) HT_ ?_
     refine pu 25 38 (bA 39 67108863) HT_ ?_
     refine pn 26 39 (bA 39 134217727) HT_ ?_
     refine pn 27 40 (bA 39 268435455) HT_ ?_
     refine pn 28 41 (bA 39 536870911) HT_ ?_
     refine pn 29 42 (bA 39 1073741823) HT_ ?_
     refine pn 30 43 (bA 39 2147483647) HT_ ?_
     refine pn 31 44 (bA 39 4294967295) HT_ ?_
     refine pn 32 45 (bA 39 8589934591) HT_ ?_
     refine pn 33 46 (bA 39 17179869183) HT_ ?_
     refine pn 34 47 (bA 39 34359738367) HT_ ?_
     refine pn 35 48 (bA 39 68719476735) HT_ ?_
     refine pn 36 49 (bA 39 137438953471) HT_ ?_
     refine pn 37 50 (bA 39 274877906943) HT_ ?_
     refine pu 38 51 (bA 39 549755813887) HT_ ?_
     refine done_ (done_of HT_.out (by kernel_rfl)) ?_
     try go_wp2
     go_meet
     case rel => exact ⟨_, (true), (by first | rfl | (simp; done) | (simp [*]; done)), H', ⟨by first | omega | exact Nat.le_refl _⟩, ⟨pl BK50.out⟩, ⟨pl BK51.out⟩, ⟨be HB.out⟩⟩
   ·replace c7 := Bool.eq_false_iff.mpr c7
    subst c7
    have H1 : (spec_l6Same.j0 k true a0_0 a0_1 a0_2 a0_3 a0_4 a0_5 l0_6 a0_7 a0_8 l0_9 l0_10 a0_11 a0_12 a0_13 a0_14 a0_15 a0_16 a0_17 a0_18 a0_19 l0_20 a0_21 a0_22 a0_23 l0_24 a0_25 a0_26 a1_0 a1_1 a1_2 a1_3 a1_4 a1_5 l1_6 a1_7 a1_8 l1_9 l1_10 a1_11 a1_12 a1_13 a1_14 a1_15 a1_16 a1_17 a1_18 a1_19 l1_20 a1_21 a1_22 a1_23 l1_24 a1_25 a1_26) = some r := by rw [if_neg (show ¬ (false = true) by decide)] at H; exact H
    clear H
    have H := H1
    clear H1
    have H' := Aside0.mk H
    clear H
    try go_wp2
    have n0_ := Aside0.mk (blk_drew BK50.out)
    have n1_ := Aside0.mk (blk_drew BK51.out)
    have n2_ := Aside0.mk (below_drew1 HB.out)
    clear BK50
    clear BK51
    clear HB
    have BK50 := n0_
    have BK51 := n1_
    have HB := n2_
    clear n0_ n1_ n2_
    as_aux_lemma =>
    refine st2 BK50.out BK51.out (bA 39 0) (by kernel_rfl) rfl rfl (fun hHeld => ?_); refine with_tabW spec_l6Same.tab3 spec_l6Same.bits3 (fun HT_ HW_ => ?_)
    generalize w.drew = w17 at BK50 BK51 HB hHeld ⊢
    refine pu 0 13 (bA 39 1) HT_ ?_
    refine pu 1 14 (bA 39 3) HT_ ?_
    refine pu 2 15 (bA 39 7) HT_ ?_
    refine pu 4 17 (bA 39 23) HT_ ?_
    refine pu 5 18 (bA 39 55) HT_ ?_
    refine pu 6 19 (bA 39 119) HT_ ?_
    refine tb 3 16 (bA 39 127) HT_ HW_ hHeld ?_
    refine tb 7 20 (bA 39 255) HT_ HW_ hHeld ?_
    refine pu 8 21 (bA 39 511) HT_ ?_
    refine pu 9 22 (bA 39 1023) HT_ ?_
    refine pu 10 23 (bA 39 2047) HT_ ?_
    refine pu 11 24 (bA 39 4095) HT_ ?_
    refine pu 12 25 (bA 39 8191) HT_ ?_
    refine pu 13 26 (bA 39 16383) HT_ ?_
    refine pu 14 27 (bA 39 32767) HT_ ?_
    refine pu 15 28 (bA 39 65535) HT_ ?_
    refine one_ (i := 16) (N := some 29) (bA 39 131071) rfl rfl (one_of HT_.out (by kernel_rfl)) (by decide) (fun K hK => ?_)
    refine goes_ Try.func23 (by kernel_rfl) rfl #[.pointer (some ⟨gp0, 3, none⟩), .pointer (some ⟨gp1, 3, none⟩)] (by rfl) rfl rfl (by (try simp only [List.map_toArray, List.map_cons, List.map_nil]); first | done | rfl | (simp only [List.length_drop, List.length_take]; rfl)) ?_
    with_reducible refine (spec_l4Same.calls k gp0 (.int .i64 a0_0) (.int .i64 a0_1) (.int .i64 a0_2) (.int .i64 a0_7) (.int .i64 a0_8) (.slice A0_9 l0_9.length c0_9) (.slice A0_10 l0_10.length c0_10) (.int .i64 a0_11) (.int .i64 a0_12) (.bool a0_13) (.int .i64 a0_14) (.int .i64 a0_15) (.int .i64 a0_16) (.bool a0_17) (.bool a0_18) (.bool a0_19) (.slice A0_20 l0_20.length c0_20) (.int .i64 a0_21) (.int .i64 a0_22) (.int .i64 a0_23) (.slice A0_24 l0_24.length c0_24) (.int .i64 a0_25) (.int .i64 a0_26) a0_3 a0_4 a0_5 A0_6 c0_6 l0_6 gp1 (.int .i64 a1_0) (.int .i64 a1_1) (.int .i64 a1_2) (.int .i64 a1_7) (.int .i64 a1_8) (.slice A1_9 l1_9.length c1_9) (.slice A1_10 l1_10.length c1_10) (.int .i64 a1_11) (.int .i64 a1_12) (.bool a1_13) (.int .i64 a1_14) (.int .i64 a1_15) (.int .i64 a1_16) (.bool a1_17) (.bool a1_18) (.bool a1_19) (.slice A1_20 l1_20.length c1_20) (.int .i64 a1_21) (.int .i64 a1_22) (.int .i64 a1_23) (.slice A1_24 l1_24.length c1_24) (.int .i64 a1_25) (.int .i64 a1_26) a1_3 a1_4 a1_5 A1_6 c1_6 l1_6 false _ ?side1 ?side2 ?side3 ?side4 ?side5 ?side6 A6.out).mono ?_
    (case side1 => exact (pl BK50.out))
    (case side2 => exact kc HR0_6.out HB.out)
    (case side3 => exact HC0_6.out)
    (case side4 => exact (pl BK51.out))
    (case side5 => exact kc HR1_6.out HB.out)
    (case side6 => exact HC1_6.out)
    rintro e w18 ⟨rfl, hb⟩
    refine ⟨_, rfl, ?_⟩
    have n0_ := Aside0.mk (blkb hb BK50.out)
    have n1_ := Aside0.mk (blkb hb BK51.out)
    have n2_ := Aside0.mk (below_step (be HB.out) hb)
    clear BK50
    clear BK51
    clear HB
    have BK50 := n0_
    have BK51 := n1_
    have HB := n2_
    clear n0_ n1_ n2_
    (try clear hb)
    (try clear hb2)
    (try clear hk)
    (try clear hi)
    refine hK.out _ _ ⟨BK50.out, BK51.out⟩ (fun hHeld => ?_)
    clear hK K
    refine norm_ (a' := ?_) ?_ ?_
    rotate_left
    ·show Act.put _ (some 29) _ = _
     simp only [Act.put, List.setIfInBounds_toArray, List.set_cons_zero, List.set_cons_succ, i64_w, i32_w]
     rfl
    refine pu 17 30 (bA 39 262143) HT_ ?_
    refine pu 18 31 (bA 39 524287) HT_ ?_
    refine pu 19 32 (bA 39 1048575) HT_ ?_
    refine pn 20 33 (bA 39 2097151) HT_ ?_
    refine pn 21 34 (bA 39 4194303) HT_ ?_
    refine pn 22 35 (bA 39 8388607) HT_ ?_
    refine pn 23 36 (bA 39 16777215) HT_ ?_
    refine pu 24 37 (bA 39 33554431) HT_ ?_
    refine pu 25 38 (bA 39 67108863) HT_ ?_
    refine pn 26 39 (bA 39 134217727) HT_ ?_
    refine pn 27 40 (bA 39 268435455) HT_ ?_
    refine pn 28 41 (bA 39 536870911) HT_ ?_
    refine pn 29 42 (bA 39 1073741823) HT_ ?_
    refine pn 30 43 (bA 39 2147483647) HT_ ?_
    refine pn 31 44 (bA 39 4294967295) HT_ ?_
    refine pn 32 45 (bA 39 8589934591) HT_ ?_
    refine pn 33 46 (bA 39 17179869183) HT_ ?_
    refine pn 34 47 (bA 39 34359738367) HT_ ?_
    refine pn 35 48 (bA 39 68719476735) HT_ ?_
    refine pn 36 49 (bA 39 137438953471) HT_ ?_
    refine pn 37 50 (bA 39 274877906943) HT_ ?_
    refine pu 38 51 (bA 39 549755813887) HT_ ?_
    refine done_ (done_of HT_.out (by kernel_rfl)) ?_
    try go_wp2
    go_meet
    case rel => exact ⟨_, (true), (by first | rfl | (simp; done) | (simp [*]; done)), H', ⟨by first | omega | exact Nat.le_refl _⟩, ⟨pl BK50.out⟩, ⟨pl BK51.out⟩, ⟨be HB.out⟩⟩
 case rest =>
  clear HC3
  try clear c1
  try clear p1
  try clear c2
  try clear p2
  try clear c7
  obtain ⟨kq, x51_2, rfl, HA, HJ2, BK50, BK51, HB⟩ := hcut
  cases kq with
  | zero => exact absurd HA.out (by simp [spec_l6Same.j0])
  | succ kj2 =>
   have H := HA.out
   clear HA
   simp only [spec_l6Same.j0] at H
   by_cases c19 : x51_2 = true
   ·subst c19
    have H1 : (some false) = some r := by rw [if_pos rfl] at H; exact H
    clear H
    have H := H1
    clear H1
    obtain rfl := Option.some.inj H
    go_wp2
    go_ret
    exact ⟨by first | rfl | (simp [errW_none, errW_some] <;> rfl) | (simp [*, errW_none, errW_some] <;> rfl), by repeat (first | (with_reducible first | exact HB.out | apply below_alloc | apply pw_below_drewN | apply below_drew1 | refine below_set ?_ GE50.out | refine below_set ?_ GE51.out) | exact HB.out)⟩
   ·replace c19 := Bool.eq_false_iff.mpr c19
    subst c19
    have H1 : (if a0_21 = a1_21 then (if a0_22 = a1_22 then (if a0_23 = a1_23 then (some (a0_26 == a1_26)) else (some false)) else (some false)) else (some false)) = some r := by rw [if_neg (show ¬ (false = true) by decide)] at H; exact H
    clear H
    have H := H1
    clear H1
    by_cases c20 : a0_21 = a1_21
    ·rw [if_pos c20] at H
     have c20b0 : (a0_21 == a1_21) = true := beq_iff_eq.mpr c20
     have c20b1 : (a0_21 != a1_21) = false := bne_eq_false_iff_eq.mpr c20
     clear c20
     by_cases c21 : a0_22 = a1_22
     ·rw [if_pos c21] at H
      have c21b0 : (a0_22 == a1_22) = true := beq_iff_eq.mpr c21
      have c21b1 : (a0_22 != a1_22) = false := bne_eq_false_iff_eq.mpr c21
      clear c21
      by_cases c22 : a0_23 = a1_23
      ·rw [if_pos c22] at H
       have c22b0 : (a0_23 == a1_23) = true := beq_iff_eq.mpr c22
       have c22b1 : (a0_23 != a1_23) = false := bne_eq_false_iff_eq.mpr c22
       clear c22
       obtain rfl := Option.some.inj H
       try go_wp2
       have n0_ := Aside0.mk (blk_drew BK50.out)
       have n1_ := Aside0.mk (blk_drew BK51.out)
       have n2_ := Aside0.mk (below_drew1 HB.out)
       clear BK50
       clear BK51
       clear HB
       have BK50 := n0_
       have BK51 := n1_
       have HB := n2_
       clear n0_ n1_ n2_
       as_aux_lemma =>
       refine st2 BK50.out BK51.out (bA 43 0) (by kernel_rfl) rfl rfl (fun hHeld => ?_); refine with_tabW spec_l6Same.tab5 spec_l6Same.bits5 (fun HT_ HW_ => ?_)
       generalize wc.drew = w23 at BK50 BK51 HB hHeld ⊢
       refine pu 0 52 (bA 43 1) HT_ ?_
       refine pu 1 53 (bA 43 3) HT_ ?_
       refine pu 2 54 (bA 43 7) HT_ ?_
       refine pu 4 56 (bA 43 23) HT_ ?_
       refine pu 5 57 (bA 43 55) HT_ ?_
       refine pu 6 58 (bA 43 119) HT_ ?_
       refine tb 3 55 (bA 43 127) HT_ HW_ hHeld ?_
       refine tb 7 59 (bA 43 255) HT_ HW_ hHeld ?_
       refine pu 8 60 (bA 43 511) HT_ ?_
       refine pu 9 61 (bA 43 1023) HT_ ?_
       refine pu 10 62 (bA 43 2047) HT_ ?_
       refine pu 11 63 (bA 43 4095) HT_ ?_
       refine pu 12 64 (bA 43 8191) HT_ ?_
       refine pu 14 66 (bA 43 24575) HT_ ?_
       refine pu 15 67 (bA 43 57343) HT_ ?_
       refine pu 16 68 (bA 43 122879) HT_ ?_
       refine tb 13 65 (bA 43 131071) HT_ HW_ hHeld ?_
       refine tb 17 69 (bA 43 262143) HT_ HW_ hHeld ?_
       refine pu 18 70 (bA 43 524287) HT_ ?_
       refine pu 19 71 (bA 43 1048575) HT_ ?_
       refine pu 20 72 (bA 43 2097151) HT_ ?_
       refine pu 21 73 (bA 43 4194303) HT_ ?_
       refine pu 22 74 (bA 43 8388607) HT_ ?_
       refine pu 23 75 (bA 43 16777215) HT_ ?_
       refine pu 25 77 (bA 43 50331647) HT_ ?_
       refine pu 26 78 (bA 43 117440511) HT_ ?_
       refine pu 27 79 (bA 43 251658239) HT_ ?_
       refine tb 24 76 (bA 43 268435455) HT_ HW_ hHeld ?_
       refine tb 28 80 (bA 43 536870911) HT_ HW_ hHeld ?_
       refine pu 29 81 (bA 43 1073741823) HT_ ?_
       refine pu 30 82 (bA 43 2147483647) HT_ ?_
       refine pu 31 83 (bA 43 4294967295) HT_ ?_
       refine pu 32 84 (bA 43 8589934591) HT_ ?_
       refine pu 33 85 (bA 43 17179869183) HT_ ?_
       refine pu 34 86 (bA 43 34359738367) HT_ ?_
       refine pu 36 88 (bA 43 103079215103) HT_ ?_
       refine pu 37 89 (bA 43 240518168575) HT_ ?_
       refine pu 38 90 (bA 43 515396075519) HT_ ?_
       refine tb 35 87 (bA 43 549755813887) HT_ HW_ hHeld ?_
       refine tb 39 91 (bA 43 1099511627775) HT_ HW_ hHeld ?_
       refine pu 40 92 (bA 43 2199023255551) HT_ ?_
       refine pu 41 93 (bA 43 4398046511103) HT_ ?_
       refine pu 42 4 (bA 43 8796093022207) HT_ ?_
       refine done_ (done_of HT_.out (by kernel_rfl)) ?_
       try go_wp2
       go_ret
       exact ⟨by first | rfl | (simp [errW_none, errW_some] <;> rfl) | (simp [*, errW_none, errW_some] <;> rfl), by repeat (first | (with_reducible first | exact HB.out | apply below_alloc | apply pw_below_drewN | apply below_drew1 | refine below_set ?_ GE50.out | refine below_set ?_ GE51.out) | exact HB.out)⟩
      ·rw [if_neg c22] at H
       have c22b0 : (a0_23 == a1_23) = false := beq_eq_false_iff_ne.mpr c22
       have c22b1 : (a0_23 != a1_23) = true := bne_iff_ne.mpr c22
       obtain rfl := Option.some.inj H
       try go_wp2
       have n0_ := Aside0.mk (blk_drew BK50.out)
       have n1_ := Aside0.mk (blk_drew BK51.out)
       have n2_ := Aside0.mk (below_drew1 HB.out)
       clear BK50
       clear BK51
       clear HB
       have BK50 := n0_
       have BK51 := n1_
       have HB := n2_
       clear n0_ n1_ n2_
       as_aux_lemma =>
       refine st2 BK50.out BK51.out (bA 43 0) (by kernel_rfl) rfl rfl (fun hHeld => ?_); refine with_tabW spec_l6Same.tab5 spec_l6Same.bits5 (fun HT_ HW_ => ?_)
       generalize wc.drew = w24 at BK50 BK51 HB hHeld ⊢
       refine pu 0 52 (bA 43 1) HT_ ?_
       refine pu 1 53 (bA 43 3) HT_ ?_
       refine pu 2 54 (bA 43 7) HT_ ?_
       refine pu 4 56 (bA 43 23) HT_ ?_
       refine pu 5 57 (bA 43 55) HT_ ?_
       refine pu 6 58 (bA 43 119) HT_ ?_
       refine tb 3 55 (bA 43 127) HT_ HW_ hHeld ?_
       refine tb 7 59 (bA 43 255) HT_ HW_ hHeld ?_
       refine pu 8 60 (bA 43 511) HT_ ?_
       refine pu 9 61 (bA 43 1023) HT_ ?_
       refine pu 10 62 (bA 43 2047) HT_ ?_
       refine pu 11 63 (bA 43 4095) HT_ ?_
       refine pu 12 64 (bA 43 8191) HT_ ?_
       refine pu 14 66 (bA 43 24575) HT_ ?_
       refine pu 15 67 (bA 43 57343) HT_ ?_
       refine pu 16 68 (bA 43 122879) HT_ ?_
       refine tb 13 65 (bA 43 131071) HT_ HW_ hHeld ?_
       refine tb 17 69 (bA 43 262143) HT_ HW_ hHeld ?_
       refine pu 18 70 (bA 43 524287) HT_ ?_
       refine pu 19 71 (bA 43 1048575) HT_ ?_
       refine pu 20 72 (bA 43 2097151) HT_ ?_
       refine pu 21 73 (bA 43 4194303) HT_ ?_
       refine pu 22 74 (bA 43 8388607) HT_ ?_
       refine pu 23 75 (bA 43 16777215) HT_ ?_
       refine pu 25 77 (bA 43 50331647) HT_ ?_
       refine pu 26 78 (bA 43 117440511) HT_ ?_
       refine pu 27 79 (bA 43 251658239) HT_ ?_
       refine tb 24 76 (bA 43 268435455) HT_ HW_ hHeld ?_
       refine tb 28 80 (bA 43 536870911) HT_ HW_ hHeld ?_
       refine pu 29 81 (bA 43 1073741823) HT_ ?_
       refine pu 30 82 (bA 43 2147483647) HT_ ?_
       refine pu 31 83 (bA 43 4294967295) HT_ ?_
       refine pn 32 84 (bA 43 8589934591) HT_ ?_
       refine pn 33 85 (bA 43 17179869183) HT_ ?_
       refine pn 34 86 (bA 43 34359738367) HT_ ?_
       refine pn 35 87 (bA 43 68719476735) HT_ ?_
       refine pn 36 88 (bA 43 137438953471) HT_ ?_
       refine pn 37 89 (bA 43 274877906943) HT_ ?_
       refine pn 38 90 (bA 43 549755813887) HT_ ?_
       refine pn 39 91 (bA 43 1099511627775) HT_ ?_
       refine pn 40 92 (bA 43 2199023255551) HT_ ?_
       refine pu 41 93 (bA 43 4398046511103) HT_ ?_
       refine pu 42 4 (bA 43 8796093022207) HT_ ?_
       refine done_ (done_of HT_.out (by kernel_rfl)) ?_
       try go_wp2
       go_ret
       exact ⟨by first | rfl | (simp [errW_none, errW_some] <;> rfl) | (simp [*, errW_none, errW_some] <;> rfl), by repeat (first | (with_reducible first | exact HB.out | apply below_alloc | apply pw_below_drewN | apply below_drew1 | refine below_set ?_ GE50.out | refine below_set ?_ GE51.out) | exact HB.out)⟩
     ·rw [if_neg c21] at H
      have c21b0 : (a0_22 == a1_22) = false := beq_eq_false_iff_ne.mpr c21
      have c21b1 : (a0_22 != a1_22) = true := bne_iff_ne.mpr c21
      obtain rfl := Option.some.inj H
      try go_wp2
      have n0_ := Aside0.mk (blk_drew BK50.out)
      have n1_ := Aside0.mk (blk_drew BK51.out)
      have n2_ := Aside0.mk (below_drew1 HB.out)
      clear BK50
      clear BK51
      clear HB
      have BK50 := n0_
      have BK51 := n1_
      have HB := n2_
      clear n0_ n1_ n2_
      as_aux_lemma =>
      refine st2 BK50.out BK51.out (bA 43 0) (by kernel_rfl) rfl rfl (fun hHeld => ?_); refine with_tabW spec_l6Same.tab5 spec_l6Same.bits5 (fun HT_ HW_ => ?_)
      generalize wc.drew = w25 at BK50 BK51 HB hHeld ⊢
      refine pu 0 52 (bA 43 1) HT_ ?_
      refine pu 1 53 (bA 43 3) HT_ ?_
      refine pu 2 54 (bA 43 7) HT_ ?_
      refine pu 4 56 (bA 43 23) HT_ ?_
      refine pu 5 57 (bA 43 55) HT_ ?_
      refine pu 6 58 (bA 43 119) HT_ ?_
      refine tb 3 55 (bA 43 127) HT_ HW_ hHeld ?_
      refine tb 7 59 (bA 43 255) HT_ HW_ hHeld ?_
      refine pu 8 60 (bA 43 511) HT_ ?_
      refine pu 9 61 (bA 43 1023) HT_ ?_
      refine pu 10 62 (bA 43 2047) HT_ ?_
      refine pu 11 63 (bA 43 4095) HT_ ?_
      refine pu 12 64 (bA 43 8191) HT_ ?_
      refine pu 14 66 (bA 43 24575) HT_ ?_
      refine pu 15 67 (bA 43 57343) HT_ ?_
      refine pu 16 68 (bA 43 122879) HT_ ?_
      refine tb 13 65 (bA 43 131071) HT_ HW_ hHeld ?_
      refine tb 17 69 (bA 43 262143) HT_ HW_ hHeld ?_
      refine pu 18 70 (bA 43 524287) HT_ ?_
      refine pu 19 71 (bA 43 1048575) HT_ ?_
      refine pu 20 72 (bA 43 2097151) HT_ ?_
      refine pn 21 73 (bA 43 4194303) HT_ ?_
      refine pn 22 74 (bA 43 8388607) HT_ ?_
      refine pn 23 75 (bA 43 16777215) HT_ ?_
      refine pn 24 76 (bA 43 33554431) HT_ ?_
      refine pn 25 77 (bA 43 67108863) HT_ ?_
      refine pn 26 78 (bA 43 134217727) HT_ ?_
      refine pn 27 79 (bA 43 268435455) HT_ ?_
      refine pn 28 80 (bA 43 536870911) HT_ ?_
      refine pn 29 81 (bA 43 1073741823) HT_ ?_
      refine pu 30 82 (bA 43 2147483647) HT_ ?_
      refine pu 31 83 (bA 43 4294967295) HT_ ?_
      refine pn 32 84 (bA 43 8589934591) HT_ ?_
      refine pn 33 85 (bA 43 17179869183) HT_ ?_
      refine pn 34 86 (bA 43 34359738367) HT_ ?_
      refine pn 35 87 (bA 43 68719476735) HT_ ?_
      refine pn 36 88 (bA 43 137438953471) HT_ ?_
      refine pn 37 89 (bA 43 274877906943) HT_ ?_
      refine pn 38 90 (bA 43 549755813887) HT_ ?_
      refine pn 39 91 (bA 43 1099511627775) HT_ ?_
      refine pn 40 92 (bA 43 2199023255551) HT_ ?_
      refine pu 41 93 (bA 43 4398046511103) HT_ ?_
      refine pu 42 4 (bA 43 8796093022207) HT_ ?_
      refine done_ (done_of HT_.out (by kernel_rfl)) ?_
      try go_wp2
      go_ret
      exact ⟨by first | rfl | (simp [errW_none, errW_some] <;> rfl) | (simp [*, errW_none, errW_some] <;> rfl), by repeat (first | (with_reducible first | exact HB.out | apply below_alloc | apply pw_below_drewN | apply below_drew1 | refine below_set ?_ GE50.out | refine below_set ?_ GE51.out) | exact HB.out)⟩
    ·rw [if_neg c20] at H
     have c20b0 : (a0_21 == a1_21) = false := beq_eq_false_iff_ne.mpr c20
     have c20b1 : (a0_21 != a1_21) = true := bne_iff_ne.mpr c20
     obtain rfl := Option.some.inj H
     try go_wp2
     have n0_ := Aside0.mk (blk_drew BK50.out)
     have n1_ := Aside0.mk (blk_drew BK51.out)
     have n2_ := Aside0.mk (below_drew1 HB.out)
     clear BK50
     clear BK51
     clear HB
     have BK50 := n0_
     have BK51 := n1_
     have HB := n2_
     clear n0_ n1_ n2_
     as_aux_lemma =>
     refine st2 BK50.out BK51.out (bA 43 0) (by kernel_rfl) rfl rfl (fun hHeld => ?_); refine with_tabW spec_l6Same.tab5 spec_l6Same.bits5 (fun HT_ HW_ => ?_)
     generalize wc.drew = w26 at BK50 BK51 HB hHeld ⊢
     refine pu 0 52 (bA 43 1) HT_ ?_
     refine pu 1 53 (bA 43 3) HT_ ?_
     refine pu 2 54 (bA 43 7) HT_ ?_
     refine pu 4 56 (bA 43 23) HT_ ?_
     refine pu 5 57 (bA 43 55) HT_ ?_
     refine pu 6 58 (bA 43 119) HT_ ?_
     refine tb 3 55 (bA 43 127) HT_ HW_ hHeld ?_
     refine tb 7 59 (bA 43 255) HT_ HW_ hHeld ?_
     refine pu 8 60 (bA 43 511) HT_ ?_
     refine pu 9 61 (bA 43 1023) HT_ ?_
     refine pn 10 62 (bA 43 2047) HT_ ?_
     refine pn 11 63 (bA 43 4095) HT_ ?_
     refine pn 12 64 (bA 43 8191) HT_ ?_
     refine pn 13 65 (bA 43 16383) HT_ ?_
     refine pn 14 66 (bA 43 32767) HT_ ?_
     refine pn 15 67 (bA 43 65535) HT_ ?_
     refine pn 16 68 (bA 43 131071) HT_ ?_
     refine pn 17 69 (bA 43 262143) HT_ ?_
     refine pn 18 70 (bA 43 524287) HT_ ?_
     refine pu 19 71 (bA 43 1048575) HT_ ?_
     refine pu 20 72 (bA 43 2097151) HT_ ?_
     refine pn 21 73 (bA 43 4194303) HT_ ?_
     refine pn 22 74 (bA 43 8388607) HT_ ?_
     refine pn 23 75 (bA 43 16777215) HT_ ?_
     refine pn 24 76 (bA 43 33554431) HT_ ?_
     refine pn 25 77 (bA 43 67108863) HT_ ?_
     refine pn 26 78 (bA 43 134217727) HT_ ?_
     refine pn 27 79 (bA 43 268435455) HT_ ?_
     refine pn 28 80 (bA 43 536870911) HT_ ?_
     refine pn 29 81 (bA 43 1073741823) HT_ ?_
     refine pu 30 82 (bA 43 2147483647) HT_ ?_
     refine pu 31 83 (bA 43 4294967295) HT_ ?_
     refine pn 32 84 (bA 43 8589934591) HT_ ?_
     refine pn 33 85 (bA 43 17179869183) HT_ ?_
     refine pn 34 86 (bA 43 34359738367) HT_ ?_
     refine pn 35 87 (bA 43 68719476735) HT_ ?_
     refine pn 36 88 (bA 43 137438953471) HT_ ?_
     refine pn 37 89 (bA 43 274877906943) HT_ ?_
     refine pn 38 90 (bA 43 549755813887) HT_ ?_
     refine pn 39 91 (bA 43 1099511627775) HT_ ?_
     refine pn 40 92 (bA 43 2199023255551) HT_ ?_
     refine pu 41 93 (bA 43 4398046511103) HT_ ?_
     refine pu 42 4 (bA 43 8796093022207) HT_ ?_
     refine done_ (done_of HT_.out (by kernel_rfl)) ?_
     try go_wp2
     go_ret
     exact ⟨by first | rfl | (simp [errW_none, errW_some] <;> rfl) | (simp [*, errW_none, errW_some] <;> rfl), by repeat (first | (with_reducible first | exact HB.out | apply below_alloc | apply pw_below_drewN | apply below_drew1 | refine below_set ?_ GE50.out | refine below_set ?_ GE51.out) | exact HB.out)⟩

end Go.Proofs.Ytckgkblpbfckdaa.PFnExactSameVts
