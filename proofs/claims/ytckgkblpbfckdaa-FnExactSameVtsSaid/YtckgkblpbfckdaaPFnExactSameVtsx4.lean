-- Written for this claim by a program of this session's (wip/p2.sh).
import Derived.Test.YtckgkblpbfckdaaPFnExactSameVtsx0
import Derived.Test.YtckgkblpbfckdaaQgBrief
import Derived.Test.YtckgkblpbfckdaaQgQuick
import Derived.Test.YtckgkblpbfckdaaPFnExactSameVtsx3
namespace Go.Proofs.Ytckgkblpbfckdaa.PFnExactSameVts
open Go.RowKit Go.Proofs.YtckgkblpbfckdaaW.PrintWords Go.Proofs.YtckgkblpbfckdaaW.PrintLast Go.Proofs.YtckgkblpbfckdaaW.PrintMore Go.Proofs.YtckgkblpbfckdaaQuick Go.Proofs.YtckgkblpbfckdaaBrief Go.Proofs.YtckgkblpbfckdaaCells
attribute [local go_sem] max2_int min2_int max_two min_two max_three min_three max_four min_four   -- for this text's walks alone
set_option linter.unusedVariables false
set_option linter.unusedSimpArgs false

/-! ### spec_l4Same: function 23 -/
def spec_l4Same.f (k : Nat) (a0_0 : Int) (a0_1 : Int) (a0_2 : Bool) (l0_3 : List Int) (a1_0 : Int) (a1_1 : Int) (a1_2 : Bool) (l1_3 : List Int) : Option (Bool) := if a0_0 = a1_0 then (if a0_1 = a1_1 then (if (a0_2 == a1_2) = true then ((spec_l4Ints.f k l0_3 l1_3).bind fun t115 => (some t115)) else (some false)) else (some false)) else (some false)
theorem spec_l4Same.mono : ∀ a0 a1 a2 a3 a4 a5 a6 a7 k, LeO (spec_l4Same.f k a0 a1 a2 a3 a4 a5 a6 a7) (spec_l4Same.f (k + 1) a0 a1 a2 a3 a4 a5 a6 a7) := by
 intro a0 a1 a2 a3 a4 a5 a6 a7 k
 unfold spec_l4Same.f
 repeat' first
   | (with_reducible exact spec_l4Ints.mono _ _ _)
   | (with_reducible exact LeO.refl _)
   | (with_reducible exact LeO.none _)
   | (with_reducible refine LeO.ite ?_ ?_)
   | (with_reducible refine LeO.bind ?_ (fun _ => ?_))
   | exact spec_l4Ints.mono _ _ _
   | exact LeO.none _
   | refine LeO.ite ?_ ?_
   | refine LeO.bind ?_ (fun _ => ?_)
def spec_l4Same.T1 : Bool × List (List Nat × List Nat) := (true, [([], []), ([0], [0]), ([1], [1]), ([2], [2]), ([], []), ([4], [4]), ([5], [5]), ([6], [6]), ([3, 7], [3, 7]), ([8], [8]), ([9], [9]), ([10, 9], [9, 10]), ([11, 9], [9, 11]), ([12, 9], [9, 12]), ([9], [9]), ([14, 9], [9, 14]), ([15, 9], [9, 15]), ([16, 9], [9, 16]), ([13, 17, 9], [9, 13, 17]), ([9, 18], [9, 18]), ([19, 9], [19]), ([20], [20]), ([21, 20], [20, 21]), ([22, 20], [20, 22]), ([23, 20], [20, 23]), ([20], [20]), ([25, 20], [20, 25]), ([26, 20], [20, 26]), ([27, 20], [20, 27]), ([24, 28, 20], [20, 24, 28]), ([20, 29], [20, 29]), ([30, 20], [30]), ([31], [31]), ([32, 31], [31, 32]), ([33, 31], [31, 33]), ([34, 31], [31, 34]), ([31], [31]), ([36, 31], [31, 36]), ([37, 31], [31, 37]), ([38, 31], [31, 38]), ([35, 39, 31, 31], [31, 35, 39]), ([31, 40], [31, 40]), ([41, 40, 0, 1, 2, 3, 4, 5, 6, 7, 8, 9, 10, 11, 12, 13, 14, 15, 16, 17, 18, 19, 20, 21, 22, 23, 24, 25, 26, 27, 28, 29, 30, 31, 32, 33, 34, 35, 36, 37, 38, 39, 40, 41], [41])])
def spec_l4Same.B1 : List Nat := [0, 1, 3, 7, 0, 16, 48, 112, 255, 511, 1023, 2047, 4095, 8191, 1023, 17407, 50175, 115711, 262143, 524287, 1048575, 2097151, 4194303, 8388607, 16777215, 2097151, 35651583, 102760447, 236978175, 536870911, 1073741823, 2147483647, 4294967295, 8589934591, 17179869183, 34359738367, 4294967295, 73014444031, 210453397503, 485331304447, 1099511627775, 2199023255551, 4398046511103]
theorem spec_l4Same.tab1 : rtab .any (opsOf Try.f23 1) = spec_l4Same.T1 := by kernel_rfl
theorem spec_l4Same.bits1 : waitsOk spec_l4Same.T1.2 spec_l4Same.B1 = true := by kernel_rfl
set_option maxHeartbeats 8000000 in
set_option maxRecDepth 100000 in
theorem spec_l4Same.calls (k : Nat) (gp0 : Nat) (P0_0 P0_1 P0_2 P0_7 P0_8 P0_9 P0_10 P0_11 P0_12 P0_13 P0_14 P0_15 P0_16 P0_17 P0_18 P0_19 P0_20 P0_21 P0_22 P0_23 P0_24 P0_25 P0_26 : Value) (a0_0 : Int) (a0_1 : Int) (a0_2 : Bool) (A0_3 : Option Addr) (c0_3 : Nat) (l0_3 : List Int) (gp1 : Nat) (P1_0 P1_1 P1_2 P1_7 P1_8 P1_9 P1_10 P1_11 P1_12 P1_13 P1_14 P1_15 P1_16 P1_17 P1_18 P1_19 P1_20 P1_21 P1_22 P1_23 P1_24 P1_25 P1_26 : Value) (a1_0 : Int) (a1_1 : Int) (a1_2 : Bool) (A1_3 : Option Addr) (c1_3 : Nat) (l1_3 : List Int) (r : Bool) (w : World) (hp0 : w.heap[gp0]? = some (.cells #[P0_0, P0_1, P0_2, .int .i64 a0_0, .int .i64 a0_1, .bool a0_2, .slice A0_3 l0_3.length c0_3, P0_7, P0_8, P0_9, P0_10, P0_11, P0_12, P0_13, P0_14, P0_15, P0_16, P0_17, P0_18, P0_19, P0_20, P0_21, P0_22, P0_23, P0_24, P0_25, P0_26] 45 (0, 0))) (hr0_3 : Kd.C (Kd.int .i64) w A0_3 l0_3.length l0_3) (hc0_3 : l0_3.length ≤ c0_3) (hp1 : w.heap[gp1]? = some (.cells #[P1_0, P1_1, P1_2, .int .i64 a1_0, .int .i64 a1_1, .bool a1_2, .slice A1_3 l1_3.length c1_3, P1_7, P1_8, P1_9, P1_10, P1_11, P1_12, P1_13, P1_14, P1_15, P1_16, P1_17, P1_18, P1_19, P1_20, P1_21, P1_22, P1_23, P1_24, P1_25, P1_26] 45 (0, 0))) (hr1_3 : Kd.C (Kd.int .i64) w A1_3 l1_3.length l1_3) (hc1_3 : l1_3.length ≤ c1_3) (h : spec_l4Same.f k a0_0 a0_1 a0_2 l0_3 a1_0 a1_1 a1_2 l1_3 = some r) :
  Calls Try.prog 23 #[.pointer (some ⟨gp0, 3, none⟩), .pointer (some ⟨gp1, 3, none⟩)] w fun e w' => e = .returned (.bool r) ∧ Below w.heap.size w w' := by
 have HR0_3 := Aside0.mk hr0_3
 have HC0_3 := Aside0.mk hc0_3
 clear hr0_3 hc0_3
 have HR1_3 := Aside0.mk hr1_3
 have HC1_3 := Aside0.mk hc1_3
 clear hr1_3 hc1_3
 have BK50 := Aside0.mk hp0
 clear hp0
 have BK51 := Aside0.mk hp1
 clear hp1
 have HB := Aside0.mk (Below.refl w.heap.size w)
 have H : (if a0_0 = a1_0 then (if a0_1 = a1_1 then (if (a0_2 == a1_2) = true then ((spec_l4Ints.f k l0_3 l1_3).bind fun t115 => (some t115)) else (some false)) else (some false)) else (some false)) = some r := h
 clear h
 by_cases c3 : a0_0 = a1_0
 ·rw [if_pos c3] at H
  have c3b0 : (a0_0 == a1_0) = true := beq_iff_eq.mpr c3
  have c3b1 : (a0_0 != a1_0) = false := bne_eq_false_iff_eq.mpr c3
  clear c3
  by_cases c4 : a0_1 = a1_1
  ·rw [if_pos c4] at H
   have c4b0 : (a0_1 == a1_1) = true := beq_iff_eq.mpr c4
   have c4b1 : (a0_1 != a1_1) = false := bne_eq_false_iff_eq.mpr c4
   clear c4
   by_cases c5 : (a0_2 == a1_2) = true
   ·rw [if_pos c5] at H
    have c5b0 : (a0_2 == a1_2) = true := c5
    (try (have c5b1 : decide (a0_2 = a1_2) = true := by simpa using c5))
    (try (have c5b2 : (a0_2 == a1_2) = true := by simpa using c5))
    clear c5
    replace H := Option.bind_eq_some_iff.mp H
    obtain ⟨t115, A60, H⟩ := H
    replace H : (some t115) = some r := H
    have A6 := Aside0.mk A60
    clear A60
    obtain rfl := Option.some.inj H
    go_enter Try.func23, Try.ntmps23
    try go_wp2
    have n0_ := Aside0.mk (blk_drew BK50.out)
    have n1_ := Aside0.mk (blk_drew BK51.out)
    have n2_ := Aside0.mk (below_drew1 HB.out)
    clear BK50
    clear BK51
    clear HB
    have BK50 := n0_
    have BK51 := n1_
    have HB := n2_
    clear n0_ n1_ n2_
    as_aux_lemma =>
    refine st2 BK50.out BK51.out (bA 43 0) (by kernel_rfl) rfl rfl (fun hHeld => ?_); refine with_tabW spec_l4Same.tab1 spec_l4Same.bits1 (fun HT_ HW_ => ?_)
    generalize w.drew = w7 at BK50 BK51 HB hHeld ⊢
    refine pu 0 5 (bA 43 1) HT_ ?_
    refine pu 1 6 (bA 43 3) HT_ ?_
    refine pu 2 7 (bA 43 7) HT_ ?_
    refine pu 4 9 (bA 43 23) HT_ ?_
    refine pu 5 10 (bA 43 55) HT_ ?_
    refine pu 6 11 (bA 43 119) HT_ ?_
    refine tb 3 8 (bA 43 127) HT_ HW_ hHeld ?_
    refine tb 7 12 (bA 43 255) HT_ HW_ hHeld ?_
    refine pu 8 13 (bA 43 511) HT_ ?_
    refine pu 9 14 (bA 43 1023) HT_ ?_
    refine pu 10 15 (bA 43 2047) HT_ ?_
    refine pu 11 16 (bA 43 4095) HT_ ?_
    refine pu 12 17 (bA 43 8191) HT_ ?_
    refine pu 14 19 (bA 43 24575) HT_ ?_
    refine pu 15 20 (bA 43 57343) HT_ ?_
    refine pu 16 21 (bA 43 122879) HT_ ?_
    refine tb 13 18 (bA 43 131071) HT_ HW_ hHeld ?_
    refine tb 17 22 (bA 43 262143) HT_ HW_ hHeld ?_
    refine pu 18 23 (bA 43 524287) HT_ ?_
    refine pu 19 24 (bA 43 1048575) HT_ ?_
    refine pu 20 25 (bA 43 2097151) HT_ ?_
    refine pu 21 26 (bA 43 4194303) HT_ ?_
    refine pu 22 27 (bA 43 8388607) HT_ ?_
    refine pu 23 28 (bA 43 16777215) HT_ ?_
    refine pu 25 30 (bA 43 50331647) HT_ ?_
    refine pu 26 31 (bA 43 117440511) HT_ ?_
    refine pu 27 32 (bA 43 251658239) HT_ ?_
    refine tb 24 29 (bA 43 268435455) HT_ HW_ hHeld ?_
    refine tb 28 33 (bA 43 536870911) HT_ HW_ hHeld ?_
    refine pu 29 34 (bA 43 1073741823) HT_ ?_
    refine pu 30 35 (bA 43 2147483647) HT_ ?_
    refine pu 31 36 (bA 43 4294967295) HT_ ?_
    refine pu 32 37 (bA 43 8589934591) HT_ ?_
    refine pu 33 38 (bA 43 17179869183) HT_ ?_
    refine pu 34 39 (bA 43 34359738367) HT_ ?_
    refine pu 36 41 (bA 43 103079215103) HT_ ?_
    refine pu 37 42 (bA 43 240518168575) HT_ ?_
    refine pu 38 43 (bA 43 515396075519) HT_ ?_
    refine tb 35 40 (bA 43 549755813887) HT_ HW_ hHeld ?_
    refine tb 39 44 (bA 43 1099511627775) HT_ HW_ hHeld ?_
    refine one_ (i := 40) (N := some 45) (bA 43 2199023255551) rfl rfl (one_of HT_.out (by kernel_rfl)) (by decide) (fun K hK => ?_)
    refine goes_ Try.func36 (by kernel_rfl) rfl #[.slice A0_3 l0_3.length c0_3, .slice A1_3 l1_3.length c1_3] (by rfl) rfl rfl (by (try simp only [List.map_toArray, List.map_cons, List.map_nil]); first | done | rfl | (simp only [List.length_drop, List.length_take]; rfl)) ?_
    with_reducible refine (spec_l4Ints.calls k _ _ l0_3 _ _ l1_3 t115 _ ?side1 ?side2 ?side3 ?side4 A6.out).mono ?_
    (case side1 => exact kc HR0_3.out HB.out)
    (case side2 => exact HC0_3.out)
    (case side3 => exact kc HR1_3.out HB.out)
    (case side4 => exact HC1_3.out)
    rintro e w' ⟨rfl, ⟨nd, rfl⟩⟩
    refine ⟨_, rfl, ?_⟩
    refine hK.out _ _ ⟨BK50.out, BK51.out⟩ (fun hHeld => ?_)
    clear hK K
    refine norm_ (a' := ?_) ?_ ?_
    rotate_left
    ·show Act.put _ (some 45) _ = _
     simp only [Act.put, List.setIfInBounds_toArray, List.set_cons_zero, List.set_cons_succ, i64_w, i32_w]
     rfl
    refine pu 41 46 (bA 43 4398046511103) HT_ ?_
    refine pu 42 4 (bA 43 8796093022207) HT_ ?_
    refine done_ (done_of HT_.out (by kernel_rfl)) ?_
    try go_wp2
    go_ret
    exact ⟨by first | rfl | (simp [errW_none, errW_some] <;> rfl) | (simp [*, errW_none, errW_some] <;> rfl), by repeat (first | (with_reducible first | exact HB.out | apply below_alloc | apply pw_below_drewN | apply below_drew1 | refine below_set ?_ GE50.out | refine below_set ?_ GE51.out) | exact HB.out)⟩
   ·rw [if_neg c5] at H
    have c5b0 : (a0_2 == a1_2) = false := by simpa using c5
    (try (have c5b1 : decide (a0_2 = a1_2) = false := by simpa using c5))
    (try (have c5b2 : (a0_2 == a1_2) = false := by simpa using c5))
    (try (have c5b3 : ¬ (a0_2 = a1_2) := by simpa using c5))
    clear c5
    obtain rfl := Option.some.inj H
    go_enter Try.func23, Try.ntmps23
    try go_wp2
    have n0_ := Aside0.mk (blk_drew BK50.out)
    have n1_ := Aside0.mk (blk_drew BK51.out)
    have n2_ := Aside0.mk (below_drew1 HB.out)
    clear BK50
    clear BK51
    clear HB
    have BK50 := n0_
    have BK51 := n1_
    have HB := n2_
    clear n0_ n1_ n2_
    as_aux_lemma =>
    refine st2 BK50.out BK51.out (bA 43 0) (by kernel_rfl) rfl rfl (fun hHeld => ?_); refine with_tabW spec_l4Same.tab1 spec_l4Same.bits1 (fun HT_ HW_ => ?_)
    generalize w.drew = w8 at BK50 BK51 HB hHeld ⊢
    refine pu 0 5 (bA 43 1) HT_ ?_
    refine pu 1 6 (bA 43 3) HT_ ?_
    refine pu 2 7 (bA 43 7) HT_ ?_
    refine pu 4 9 (bA 43 23) HT_ ?_
    refine pu 5 10 (bA 43 55) HT_ ?_
    refine pu 6 11 (bA 43 119) HT_ ?_
    refine tb 3 8 (bA 43 127) HT_ HW_ hHeld ?_
    refine tb 7 12 (bA 43 255) HT_ HW_ hHeld ?_
    refine pu 8 13 (bA 43 511) HT_ ?_
    refine pu 9 14 (bA 43 1023) HT_ ?_
    refine pu 10 15 (bA 43 2047) HT_ ?_
    refine pu 11 16 (bA 43 4095) HT_ ?_
    refine pu 12 17 (bA 43 8191) HT_ ?_
    refine pu 14 19 (bA 43 24575) HT_ ?_
    refine pu 15 20 (bA 43 57343) HT_ ?_
    refine pu 16 21 (bA 43 122879) HT_ ?_
    refine tb 13 18 (bA 43 131071) HT_ HW_ hHeld ?_
    refine tb 17 22 (bA 43 262143) HT_ HW_ hHeld ?_
    refine pu 18 23 (bA 43 524287) HT_ ?_
    refine pu 19 24 (bA 43 1048575) HT_ ?_
    refine pu 20 25 (bA 43 2097151) HT_ ?_
    refine pu 21 26 (bA 43 4194303) HT_ ?_
    refine pu 22 27 (bA 43 8388607) HT_ ?_
    refine pu 23 28 (bA 43 16777215) HT_ ?_
    refine pu 25 30 (bA 43 50331647) HT_ ?_
    refine pu 26 31 (bA 43 117440511) HT_ ?_
    refine pu 27 32 (bA 43 251658239) HT_ ?_
    refine tb 24 29 (bA 43 268435455) HT_ HW_ hHeld ?_
    refine tb 28 33 (bA 43 536870911) HT_ HW_ hHeld ?_
    refine pu 29 34 (bA 43 1073741823) HT_ ?_
    refine pu 30 35 (bA 43 2147483647) HT_ ?_
    refine pu 31 36 (bA 43 4294967295) HT_ ?_
    refine pn 32 37 (bA 43 8589934591) HT_ ?_
    refine pn 33 38 (bA 43 17179869183) HT_ ?_
    refine pn 34 39 (bA 43 34359738367) HT_ ?_
    refine pn 35 40 (bA 43 68719476735) HT_ ?_
    refine pn 36 41 (bA 43 137438953471) HT_ ?_
    refine pn 37 42 (bA 43 274877906943) HT_ ?_
    refine pn 38 43 (bA 43 549755813887) HT_ ?_
    refine pn 39 44 (bA 43 1099511627775) HT_ ?_
    refine pn 40 45 (bA 43 2199023255551) HT_ ?_
    refine pu 41 46 (bA 43 4398046511103) HT_ ?_
    refine pu 42 4 (bA 43 8796093022207) HT_ ?_
    refine done_ (done_of HT_.out (by kernel_rfl)) ?_
    try go_wp2
    go_ret
    exact ⟨by first | rfl | (simp [errW_none, errW_some] <;> rfl) | (simp [*, errW_none, errW_some] <;> rfl), by repeat (first | (with_reducible first | exact HB.out | apply below_alloc | apply pw_below_drewN | apply below_drew1 | refine below_set ?_ GE50.out | refine below_set ?_ GE51.out) | exact HB.out)⟩
  ·rw [if_neg c4] at H
   have c4b0 : (a0_1 == a1_1) = false := beq_eq_false_iff_ne.mpr c4
   have c4b1 : (a0_1 != a1_1) = true := bne_iff_ne.mpr c4
   obtain rfl := Option.some.inj H
   go_enter Try.func23, Try.ntmps23
   try go_wp2
   have n0_ := Aside0.mk (blk_drew BK50.out)
   have n1_ := Aside0.mk (blk_drew BK51.out)
   have n2_ := Aside0.mk (below_drew1 HB.out)
   clear BK50
   clear BK51
   clear HB
   have BK50 := n0_
   have BK51 := n1_
   have HB := n2_
   clear n0_ n1_ n2_
   as_aux_lemma =>
   refine st2 BK50.out BK51.out (bA 43 0) (by kernel_rfl) rfl rfl (fun hHeld => ?_); refine with_tabW spec_l4Same.tab1 spec_l4Same.bits1 (fun HT_ HW_ => ?_)
   generalize w.drew = w9 at BK50 BK51 HB hHeld ⊢
   refine pu 0 5 (bA 43 1) HT_ ?_
   refine pu 1 6 (bA 43 3) HT_ ?_
   refine pu 2 7 (bA 43 7) HT_ ?_
   refine pu 4 9 (bA 43 23) HT_ ?_
   refine pu 5 10 (bA 43 55) HT_ ?_
   refine pu 6 11 (bA 43 119) HT_ ?_
   refine tb 3 8 (bA 43 127) HT_ HW_ hHeld ?_
   refine tb 7 12 (bA 43 255) HT_ HW_ hHeld ?_
   refine pu 8 13 (bA 43 511) HT_ ?_
   refine pu 9 14 (bA 43 1023) HT_ ?_
   refine pu 10 15 (bA 43 2047) HT_ ?_
   refine pu 11 16 (bA 43 4095) HT_ ?_
   refine pu 12 17 (bA 43 8191) HT_ ?_
   refine pu 14 19 (bA 43 24575) HT_ ?_
   refine pu 15 20 (bA 43 57343) HT_ ?_
   refine pu 16 21 (bA 43 122879) HT_ ?_
   refine tb 13 18 (bA 43 131071) HT_ HW_ hHeld ?_
   refine tb 17 22 (bA 43 262143) HT_ HW_ hHeld ?_
   refine pu 18 23 (bA 43 524287) HT_ ?_
   refine pu 19 24 (bA 43 1048575) HT_ ?_
   refine pu 20 25 (bA 43 2097151) HT_ ?_
   refine pn 21 26 (bA 43 4194303) HT_ ?_
   refine pn 22 27 (bA 43 8388607) HT_ ?_
   refine pn 23 28 (bA 43 16777215) HT_ ?_
   refine pn 24 29 (bA 43 33554431) HT_ ?_
   refine pn 25 30 (bA 43 67108863) HT_ ?_
   refine pn 26 31 (bA 43 134217727) HT_ ?_
   refine pn 27 32 (bA 43 268435455) HT_ ?_
   refine pn 28 33 (bA 43 536870911) HT_ ?_
   refine pn 29 34 (bA 43 1073741823) HT_ ?_
   refine pu 30 35 (bA 43 2147483647) HT_ ?_
   refine pu 31 36 (bA 43 4294967295) HT_ ?_
   refine pn 32 37 (bA 43 8589934591) HT_ ?_
   refine pn 33 38 (bA 43 17179869183) HT_ ?_
   refine pn 34 39 (bA 43 34359738367) HT_ ?_
   refine pn 35 40 (bA 43 68719476735) HT_ ?_
   refine pn 36 41 (bA 43 137438953471) HT_ ?_
   refine pn 37 42 (bA 43 274877906943) HT_ ?_
   refine pn 38 43 (bA 43 549755813887) HT_ ?_
   refine pn 39 44 (bA 43 1099511627775) HT_ ?_
   refine pn 40 45 (bA 43 2199023255551) HT_ ?_
   refine pu 41 46 (bA 43 4398046511103) HT_ ?_
   refine pu 42 4 (bA 43 8796093022207) HT_ ?_
   refine done_ (done_of HT_.out (by kernel_rfl)) ?_
   try go_wp2
   go_ret
   exact ⟨by first | rfl | (simp [errW_none, errW_some] <;> rfl) | (simp [*, errW_none, errW_some] <;> rfl), by repeat (first | (with_reducible first | exact HB.out | apply below_alloc | apply pw_below_drewN | apply below_drew1 | refine below_set ?_ GE50.out | refine below_set ?_ GE51.out) | exact HB.out)⟩
 ·rw [if_neg c3] at H
  have c3b0 : (a0_0 == a1_0) = false := beq_eq_false_iff_ne.mpr c3
  have c3b1 : (a0_0 != a1_0) = true := bne_iff_ne.mpr c3
  obtain rfl := Option.some.inj H
  go_enter Try.func23, Try.ntmps23
  try go_wp2
  have n0_ := Aside0.mk (blk_drew BK50.out)
  have n1_ := Aside0.mk (blk_drew BK51.out)
  have n2_ := Aside0.mk (below_drew1 HB.out)
  clear BK50
  clear BK51
  clear HB
  have BK50 := n0_
  have BK51 := n1_
  have HB := n2_
  clear n0_ n1_ n2_
  as_aux_lemma =>
  refine st2 BK50.out BK51.out (bA 43 0) (by kernel_rfl) rfl rfl (fun hHeld => ?_); refine with_tabW spec_l4Same.tab1 spec_l4Same.bits1 (fun HT_ HW_ => ?_)
  generalize w.drew = w10 at BK50 BK51 HB hHeld ⊢
  refine pu 0 5 (bA 43 1) HT_ ?_
  refine pu 1 6 (bA 43 3) HT_ ?_
  refine pu 2 7 (bA 43 7) HT_ ?_
  refine pu 4 9 (bA 43 23) HT_ ?_
  refine pu 5 10 (bA 43 55) HT_ ?_
  refine pu 6 11 (bA 43 119) HT_ ?_
  refine tb 3 8 (bA 43 127) HT_ HW_ hHeld ?_
  refine tb 7 12 (bA 43 255) HT_ HW_ hHeld ?_
  refine pu 8 13 (bA 43 511) HT_ ?_
  refine pu 9 14 (bA 43 1023) HT_ ?_
  refine pn 10 15 (bA 43 2047) HT_ ?_
  refine pn 11 16 (bA 43 4095) HT_ ?_
  refine pn 12 17 (bA 43 8191) HT_ ?_
  refine pn 13 18 (bA 43 16383) HT_ ?_
  refine pn 14 19 (bA 43 32767) HT_ ?_
  refine pn 15 20 (bA 43 65535) HT_ ?_
  refine pn 16 21 (bA 43 131071) HT_ ?_
  refine pn 17 22 (bA 43 262143) HT_ ?_
  refine pn 18 23 (bA 43 524287) HT_ ?_
  refine pu 19 24 (bA 43 1048575) HT_ ?_
  refine pu 20 25 (bA 43 2097151) HT_ ?_
  refine pn 21 26 (bA 43 4194303) HT_ ?_
  refine pn 22 27 (bA 43 8388607) HT_ ?_
  refine pn 23 28 (bA 43 16777215) HT_ ?_
  refine pn 24 29 (bA 43 33554431) HT_ ?_
  refine pn 25 30 (bA 43 67108863) HT_ ?_
  refine pn 26 31 (bA 43 134217727) HT_ ?_
  refine pn 27 32 (bA 43 268435455) HT_ ?_
  refine pn 28 33 (bA 43 536870911) HT_ ?_
  refine pn 29 34 (bA 43 1073741823) HT_ ?_
  refine pu 30 35 (bA 43 2147483647) HT_ ?_
  refine pu 31 36 (bA 43 4294967295) HT_ ?_
  refine pn 32 37 (bA 43 8589934591) HT_ ?_
  refine pn 33 38 (bA 43 17179869183) HT_ ?_
  refine pn 34 39 (bA 43 34359738367) HT_ ?_
  refine pn 35 40 (bA 43 68719476735) HT_ ?_
  refine pn 36 41 (bA 43 137438953471) HT_ ?_
  refine pn 37 42 (bA 43 274877906943) HT_ ?_
  refine pn 38 43 (bA 43 549755813887) HT_ ?_
  refine pn 39 44 (bA 43 1099511627775) HT_ ?_
  refine pn 40 45 (bA 43 2199023255551) HT_ ?_
  refine pu 41 46 (bA 43 4398046511103) HT_ ?_
  refine pu 42 4 (bA 43 8796093022207) HT_ ?_
  refine done_ (done_of HT_.out (by kernel_rfl)) ?_
  try go_wp2
  go_ret
  exact ⟨by first | rfl | (simp [errW_none, errW_some] <;> rfl) | (simp [*, errW_none, errW_some] <;> rfl), by repeat (first | (with_reducible first | exact HB.out | apply below_alloc | apply pw_below_drewN | apply below_drew1 | refine below_set ?_ GE50.out | refine below_set ?_ GE51.out) | exact HB.out)⟩

end Go.Proofs.Ytckgkblpbfckdaa.PFnExactSameVts
