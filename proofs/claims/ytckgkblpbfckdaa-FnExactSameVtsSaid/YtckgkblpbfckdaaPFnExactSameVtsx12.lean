-- Written for this claim by a program of this session's (wip/p2.sh).
import Derived.Test.YtckgkblpbfckdaaPFnExactSameVtsx0
import Derived.Test.YtckgkblpbfckdaaQgBrief
import Derived.Test.YtckgkblpbfckdaaQgShort
import Derived.Test.YtckgkblpbfckdaaPFnExactSameVtsx11
namespace Go.Proofs.Ytckgkblpbfckdaa.PFnExactSameVts
open Go.RowKit Go.Proofs.YtckgkblpbfckdaaW.PrintWords Go.Proofs.YtckgkblpbfckdaaW.PrintLast Go.Proofs.YtckgkblpbfckdaaW.PrintMore Go.Proofs.YtckgkblpbfckdaaShort Go.Proofs.YtckgkblpbfckdaaBrief Go.Proofs.YtckgkblpbfckdaaCells
attribute [local go_sem] max2_int min2_int max_two min_two max_three min_three max_four min_four   -- for this text's walks alone
set_option linter.unusedVariables false
set_option linter.unusedSimpArgs false

/-! ### laws_eqBoolS: function 34 -/
def laws_eqBoolS.l0 : Nat → List Bool → List Bool → Int → Option (Bool)
 | 0, _, _, _ => none
 | k + 1, x0, x1, x5 => if x5 < (x0.length : Int) then (if 0 ≤ x5 then (if x5 < (x1.length : Int) then (if ((rdOf false x0 x5) != (rdOf false x1 x5)) = true then (some false) else (laws_eqBoolS.l0 k x0 x1 (wrap64 (x5 + 1)))) else (none)) else (none)) else (some true)
def laws_eqBoolS.f (k : Nat) (l0 : List Bool) (l1 : List Bool) : Option (Bool) := if (l0.length : Int) = (l1.length : Int) then (laws_eqBoolS.l0 k l0 l1 0) else (some false)
theorem laws_eqBoolS.mono_l : ∀ k, (∀ y0 y1 y2, LeO (laws_eqBoolS.l0 k y0 y1 y2) (laws_eqBoolS.l0 (k + 1) y0 y1 y2))
 | 0 => fun _ _ _ r h => by simp [laws_eqBoolS.l0] at h
 | k + 1 => by
  have ih0 := laws_eqBoolS.mono_l k
  ·intro y0 y1 y2
   unfold laws_eqBoolS.l0
   repeat' first
   | (with_reducible exact ih0 _ _ _)
   | (with_reducible exact LeO.refl _)
   | (with_reducible exact LeO.none _)
   | (with_reducible refine LeO.ite ?_ ?_)
   | (with_reducible refine LeO.bind ?_ (fun _ => ?_))
   | exact ih0 _ _ _
   | exact LeO.none _
   | refine LeO.ite ?_ ?_
   | refine LeO.bind ?_ (fun _ => ?_)
theorem laws_eqBoolS.mono : ∀ a0 a1 k, LeO (laws_eqBoolS.f k a0 a1) (laws_eqBoolS.f (k + 1) a0 a1) := by
 intro a0 a1 k
 have ih0 := laws_eqBoolS.mono_l k
 unfold laws_eqBoolS.f
 repeat' first
   | (with_reducible exact ih0 _ _ _)
   | (with_reducible exact LeO.refl _)
   | (with_reducible exact LeO.none _)
   | (with_reducible refine LeO.ite ?_ ?_)
   | (with_reducible refine LeO.bind ?_ (fun _ => ?_))
   | exact ih0 _ _ _
   | exact LeO.none _
   | refine LeO.ite ?_ ?_
   | refine LeO.bind ?_ (fun _ => ?_)
set_option maxHeartbeats 8000000 in
set_option maxRecDepth 100000 in
theorem laws_eqBoolS.calls (k : Nat) (A0 : Option Addr) (c0 : Nat) (l0 : List Bool) (A1 : Option Addr) (c1 : Nat) (l1 : List Bool) (w : World) (hr0 : Kd.C Kd.bool w A0 l0.length l0) (hc0 : l0.length ≤ c0) (hr1 : Kd.C Kd.bool w A1 l1.length l1) (hc1 : l1.length ≤ c1) (h : laws_eqBoolS.f k l0 l1 = some true) :
  Calls Try.prog 34 #[.slice A0 l0.length c0, .slice A1 l1.length c1] w fun e w' => e = .returned (.bool true) ∧ Drawn0 w w' := by
 have HR0 := Aside0.mk hr0
 have HC0 := Aside0.mk hc0
 clear hr0 hc0
 have HR1 := Aside0.mk hr1
 have HC1 := Aside0.mk hc1
 clear hr1 hc1
 have H : (if (l0.length : Int) = (l1.length : Int) then (laws_eqBoolS.l0 k l0 l1 0) else (some false)) = some true := h
 clear h
 by_cases c3 : (l0.length : Int) = (l1.length : Int)
 ·rw [if_pos c3] at H
  have c3b0 : ((l0.length : Int) == (l1.length : Int)) = true := beq_iff_eq.mpr c3
  have c3b1 : ((l0.length : Int) != (l1.length : Int)) = false := bne_eq_false_iff_eq.mpr c3
  have c3b2 : (l0.length == l1.length) = true := by first | simpa using c3 | (simp at c3 ⊢; omega)
  clear c3
  have H' := Aside0.mk H
  clear H
  go_enter Try.func34, Try.ntmps34
  go_wp2
  repeat (go_quiet (fail); try go_wp2)
  go_loopg [5] k (fun kq v5 w' => ∃ (x5_1 : Int), v5 = .int .i64 x5_1 ∧ Aside0 (laws_eqBoolS.l0 kq l0 l1 x5_1 = some true) ∧ Aside0 (kq ≤ k) ∧ Drawn0 w w')
  case atStart => exact ⟨(0), (by first | rfl | (simp; done) | (simp [*]; done)), H', ⟨Nat.le_refl _⟩, by repeat (first | exact Drawn0.refl _ | apply Drawn0.step)⟩
  case round =>
   clear H'
   try clear c1
   try clear p2
   try clear c3
   try clear c3b0
   try clear c3b1
   try clear c3b2
   obtain ⟨x5_1, rfl, HA, HK1, ⟨m1, rfl⟩⟩ := hrel
   cases gk with
   | zero => exact absurd HA.out (by simp [laws_eqBoolS.l0])
   | succ k1 =>
    have H := HA.out
    clear HA
    simp only [laws_eqBoolS.l0] at H
    by_cases c4 : x5_1 < (l0.length : Int)
    ·rw [if_pos c4] at H
     have c4b0 : decide (x5_1 < (l0.length : Int)) = true := decide_eq_true c4
     clear c4
     by_cases c5 : 0 ≤ x5_1
     ·rw [if_pos c5] at H
      have c5b0 : decide (0 ≤ x5_1) = true := decide_eq_true c5
      clear c5
      by_cases c6 : x5_1 < (l1.length : Int)
      ·rw [if_pos c6] at H
       have c6b0 : decide (x5_1 < (l1.length : Int)) = true := decide_eq_true c6
       clear c6
       by_cases c7 : ((rdOf false l0 x5_1) != (rdOf false l1 x5_1)) = true
       ·rw [if_pos c7] at H
        have c7b0 : ((rdOf false l0 x5_1) != (rdOf false l1 x5_1)) = true := c7
        (try (have c7b1 : decide ((rdOf false l0 x5_1) = (rdOf false l1 x5_1)) = false := by simpa using c7))
        (try (have c7b2 : ((rdOf false l0 x5_1) == (rdOf false l1 x5_1)) = false := by simpa using c7))
        (try (have c7b3 : ¬ ((rdOf false l0 x5_1) = (rdOf false l1 x5_1)) := by simpa using c7))
        clear c7
        exact absurd H (by simp)
       ·rw [if_neg c7] at H
        have c7b0 : ((rdOf false l0 x5_1) != (rdOf false l1 x5_1)) = false := by simpa using c7
        (try (have c7b1 : decide ((rdOf false l0 x5_1) = (rdOf false l1 x5_1)) = true := by simpa using c7))
        (try (have c7b2 : ((rdOf false l0 x5_1) == (rdOf false l1 x5_1)) = true := by simpa using c7))
        clear c7
        have H' := Aside0.mk H
        clear H
        have p266 : 0 ≤ (x5_1 : Int) := of_decide_eq_true (by first | (with_reducible assumption) | assumption)
        have q266 : x5_1 < (l0.length : Int) := of_decide_eq_true (by first | (with_reducible assumption) | assumption)
        obtain ⟨ad266, e266, hx266_0⟩ := Kd.at_bool HR0.out x5_1 p266 q266
        cases e266
        replace p266 := eq_true p266
        replace q266 := eq_true q266
        have p267 : 0 ≤ (x5_1 : Int) := of_decide_eq_true (by first | (with_reducible assumption) | assumption)
        have q267 : x5_1 < (l1.length : Int) := of_decide_eq_true (by first | (with_reducible assumption) | assumption)
        obtain ⟨ad267, e267, hx267_0⟩ := Kd.at_bool HR1.out x5_1 p267 q267
        cases e267
        replace p267 := eq_true p267
        replace q267 := eq_true q267
        go_wp2
        repeat (go_quiet (fail); try go_wp2)
        go_roundg k1
        case measure => have := HK1.out; omega
        case rel => exact ⟨(wrap64 (x5_1 + 1)), (by first | rfl | (simp; done) | (simp [*]; done)), H', ⟨by have := HK1.out; omega⟩, by repeat (first | exact Drawn0.refl _ | apply Drawn0.step)⟩
      ·rw [if_neg c6] at H
       exact absurd H (by simp)
     ·rw [if_neg c5] at H
      exact absurd H (by simp)
    ·rw [if_neg c4] at H
     have c4b0 : decide (x5_1 < (l0.length : Int)) = false := decide_eq_false c4
     clear c4
     go_wp2
     repeat (go_quiet (fail); try go_wp2)
     go_ret
     exact ⟨by first | rfl | (simp; done) | (simp [*]; done), by repeat (first | exact Drawn0.refl _ | apply Drawn0.step)⟩
 ·rw [if_neg c3] at H
  have c3b0 : ((l0.length : Int) == (l1.length : Int)) = false := beq_eq_false_iff_ne.mpr c3
  have c3b1 : ((l0.length : Int) != (l1.length : Int)) = true := bne_iff_ne.mpr c3
  have c3b2 : (l0.length == l1.length) = false := by first | simpa using c3 | (simp at c3 ⊢; omega)
  exact absurd H (by simp)

/-! ### laws_eqScreen: function 19 -/
def laws_eqScreen.f (k : Nat) (a0_0 : Int) (a0_1 : Int) (l0_2 : List (S74)) (l0_3 : List (S74)) (a0_4 : Int) (a0_5 : Int) (a0_6 : Bool) (a0_7 : Int) (a0_8 : Int) (a0_9 : Int) (a0_10 : Bool) (a0_11 : Bool) (a0_12 : Bool) (l0_13 : List Bool) (a0_14 : Int) (a0_15 : Int) (a0_16 : Int) (l0_17 : List Int) (a0_18 : Int) (a0_19 : Int) (a1_0 : Int) (a1_1 : Int) (l1_2 : List (S74)) (l1_3 : List (S74)) (a1_4 : Int) (a1_5 : Int) (a1_6 : Bool) (a1_7 : Int) (a1_8 : Int) (a1_9 : Int) (a1_10 : Bool) (a1_11 : Bool) (a1_12 : Bool) (l1_13 : List Bool) (a1_14 : Int) (a1_15 : Int) (a1_16 : Int) (l1_17 : List Int) (a1_18 : Int) (a1_19 : Int) : Option (Bool) := (laws_eqGrid.f k a0_0 a0_1 l0_2 l0_3 a1_0 a1_1 l1_2 l1_3).bind fun t270 => (if t270 = true then (if a0_4 = a1_4 then (if a0_5 = a1_5 then (if (a0_6 != a1_6) = true then (some false) else (if a0_7 = a1_7 then (if a0_8 = a1_8 then (if a0_9 = a1_9 then (if (a0_10 != a1_10) = true then (some false) else (if (a0_11 != a1_11) = true then (some false) else (if (a0_12 != a1_12) = true then (some false) else ((laws_eqBoolS.f k l0_13 l1_13).bind fun t271 => (if t271 = true then (if a0_14 = a1_14 then (if a0_15 = a1_15 then (if a0_16 = a1_16 then ((laws_eqInt64S.f k l0_17 l1_17).bind fun t272 => (if t272 = true then (if a0_18 = a1_18 then (if a0_19 = a1_19 then (some true) else (some false)) else (some false)) else (some false))) else (some false)) else (some false)) else (some false)) else (some false)))))) else (some false)) else (some false)) else (some false))) else (some false)) else (some false)) else (some false))
theorem laws_eqScreen.mono : ∀ a0 a1 a2 a3 a4 a5 a6 a7 a8 a9 a10 a11 a12 a13 a14 a15 a16 a17 a18 a19 a20 a21 a22 a23 a24 a25 a26 a27 a28 a29 a30 a31 a32 a33 a34 a35 a36 a37 a38 a39 k, LeO (laws_eqScreen.f k a0 a1 a2 a3 a4 a5 a6 a7 a8 a9 a10 a11 a12 a13 a14 a15 a16 a17 a18 a19 a20 a21 a22 a23 a24 a25 a26 a27 a28 a29 a30 a31 a32 a33 a34 a35 a36 a37 a38 a39) (laws_eqScreen.f (k + 1) a0 a1 a2 a3 a4 a5 a6 a7 a8 a9 a10 a11 a12 a13 a14 a15 a16 a17 a18 a19 a20 a21 a22 a23 a24 a25 a26 a27 a28 a29 a30 a31 a32 a33 a34 a35 a36 a37 a38 a39) := by
 intro a0 a1 a2 a3 a4 a5 a6 a7 a8 a9 a10 a11 a12 a13 a14 a15 a16 a17 a18 a19 a20 a21 a22 a23 a24 a25 a26 a27 a28 a29 a30 a31 a32 a33 a34 a35 a36 a37 a38 a39 k
 unfold laws_eqScreen.f
 repeat' first
   | (with_reducible exact laws_eqBoolS.mono _ _ _)
   | (with_reducible exact laws_eqGrid.mono _ _ _ _ _ _ _ _ _)
   | (with_reducible exact laws_eqInt64S.mono _ _ _)
   | (with_reducible exact LeO.refl _)
   | (with_reducible exact LeO.none _)
   | (with_reducible refine LeO.ite ?_ ?_)
   | (with_reducible refine LeO.bind ?_ (fun _ => ?_))
   | exact laws_eqBoolS.mono _ _ _
   | exact laws_eqGrid.mono _ _ _ _ _ _ _ _ _
   | exact laws_eqInt64S.mono _ _ _
   | exact LeO.none _
   | refine LeO.ite ?_ ?_
   | refine LeO.bind ?_ (fun _ => ?_)
set_option maxHeartbeats 8000000 in
set_option maxRecDepth 100000 in
theorem laws_eqScreen.calls (k : Nat) (a0_0 : Int) (a0_1 : Int) (A0_2 : Option Addr) (c0_2 : Nat) (l0_2 : List (S74)) (A0_3 : Option Addr) (c0_3 : Nat) (l0_3 : List (S74)) (a0_4 : Int) (a0_5 : Int) (a0_6 : Bool) (a0_7 : Int) (a0_8 : Int) (a0_9 : Int) (a0_10 : Bool) (a0_11 : Bool) (a0_12 : Bool) (A0_13 : Option Addr) (c0_13 : Nat) (l0_13 : List Bool) (a0_14 : Int) (a0_15 : Int) (a0_16 : Int) (A0_17 : Option Addr) (c0_17 : Nat) (l0_17 : List Int) (a0_18 : Int) (a0_19 : Int) (a1_0 : Int) (a1_1 : Int) (A1_2 : Option Addr) (c1_2 : Nat) (l1_2 : List (S74)) (A1_3 : Option Addr) (c1_3 : Nat) (l1_3 : List (S74)) (a1_4 : Int) (a1_5 : Int) (a1_6 : Bool) (a1_7 : Int) (a1_8 : Int) (a1_9 : Int) (a1_10 : Bool) (a1_11 : Bool) (a1_12 : Bool) (A1_13 : Option Addr) (c1_13 : Nat) (l1_13 : List Bool) (a1_14 : Int) (a1_15 : Int) (a1_16 : Int) (A1_17 : Option Addr) (c1_17 : Nat) (l1_17 : List Int) (a1_18 : Int) (a1_19 : Int) (w : World) (hr0_2 : Kd.C k74 w A0_2 l0_2.length l0_2) (hc0_2 : l0_2.length ≤ c0_2) (hr0_3 : Kd.C k74 w A0_3 l0_3.length l0_3) (hc0_3 : l0_3.length ≤ c0_3) (hr0_13 : Kd.C Kd.bool w A0_13 l0_13.length l0_13) (hc0_13 : l0_13.length ≤ c0_13) (hr0_17 : Kd.C (Kd.int .i64) w A0_17 l0_17.length l0_17) (hc0_17 : l0_17.length ≤ c0_17) (hr1_2 : Kd.C k74 w A1_2 l1_2.length l1_2) (hc1_2 : l1_2.length ≤ c1_2) (hr1_3 : Kd.C k74 w A1_3 l1_3.length l1_3) (hc1_3 : l1_3.length ≤ c1_3) (hr1_13 : Kd.C Kd.bool w A1_13 l1_13.length l1_13) (hc1_13 : l1_13.length ≤ c1_13) (hr1_17 : Kd.C (Kd.int .i64) w A1_17 l1_17.length l1_17) (hc1_17 : l1_17.length ≤ c1_17) (h : laws_eqScreen.f k a0_0 a0_1 l0_2 l0_3 a0_4 a0_5 a0_6 a0_7 a0_8 a0_9 a0_10 a0_11 a0_12 l0_13 a0_14 a0_15 a0_16 l0_17 a0_18 a0_19 a1_0 a1_1 l1_2 l1_3 a1_4 a1_5 a1_6 a1_7 a1_8 a1_9 a1_10 a1_11 a1_12 l1_13 a1_14 a1_15 a1_16 l1_17 a1_18 a1_19 = some true) :
  Calls Try.prog 19 #[.agg #[.int .i64 a0_0, .int .i64 a0_1, .slice A0_2 l0_2.length c0_2, .slice A0_3 l0_3.length c0_3, .int .i64 a0_4, .int .i64 a0_5, .bool a0_6, .int .i64 a0_7, .int .i64 a0_8, .int .i64 a0_9, .bool a0_10, .bool a0_11, .bool a0_12, .slice A0_13 l0_13.length c0_13, .int .i64 a0_14, .int .i64 a0_15, .int .i64 a0_16, .slice A0_17 l0_17.length c0_17, .int .i64 a0_18, .int .i64 a0_19], .agg #[.int .i64 a1_0, .int .i64 a1_1, .slice A1_2 l1_2.length c1_2, .slice A1_3 l1_3.length c1_3, .int .i64 a1_4, .int .i64 a1_5, .bool a1_6, .int .i64 a1_7, .int .i64 a1_8, .int .i64 a1_9, .bool a1_10, .bool a1_11, .bool a1_12, .slice A1_13 l1_13.length c1_13, .int .i64 a1_14, .int .i64 a1_15, .int .i64 a1_16, .slice A1_17 l1_17.length c1_17, .int .i64 a1_18, .int .i64 a1_19]] w fun e w' => e = .returned (.bool true) ∧ Below w.heap.size w w' := by
 have hu43 := Try.underlying43
 have hu41 := Try.underlying41
 have HR0_2 := Aside0.mk hr0_2
 have HC0_2 := Aside0.mk hc0_2
 clear hr0_2 hc0_2
 have HR0_3 := Aside0.mk hr0_3
 have HC0_3 := Aside0.mk hc0_3
 clear hr0_3 hc0_3
 have HR0_13 := Aside0.mk hr0_13
 have HC0_13 := Aside0.mk hc0_13
 clear hr0_13 hc0_13
 have HR0_17 := Aside0.mk hr0_17
 have HC0_17 := Aside0.mk hc0_17
 clear hr0_17 hc0_17
 have HR1_2 := Aside0.mk hr1_2
 have HC1_2 := Aside0.mk hc1_2
 clear hr1_2 hc1_2
 have HR1_3 := Aside0.mk hr1_3
 have HC1_3 := Aside0.mk hc1_3
 clear hr1_3 hc1_3
 have HR1_13 := Aside0.mk hr1_13
 have HC1_13 := Aside0.mk hc1_13
 clear hr1_13 hc1_13
 have HR1_17 := Aside0.mk hr1_17
 have HC1_17 := Aside0.mk hc1_17
 clear hr1_17 hc1_17
 have HB := Aside0.mk (Below.refl w.heap.size w)
 have H : ((laws_eqGrid.f k a0_0 a0_1 l0_2 l0_3 a1_0 a1_1 l1_2 l1_3).bind fun t270 => (if t270 = true then (if a0_4 = a1_4 then (if a0_5 = a1_5 then (if (a0_6 != a1_6) = true then (some false) else (if a0_7 = a1_7 then (if a0_8 = a1_8 then (if a0_9 = a1_9 then (if (a0_10 != a1_10) = true then (some false) else (if (a0_11 != a1_11) = true then (some false) else (if (a0_12 != a1_12) = true then (some false) else ((laws_eqBoolS.f k l0_13 l1_13).bind fun t271 => (if t271 = true then (if a0_14 = a1_14 then (if a0_15 = a1_15 then (if a0_16 = a1_16 then ((laws_eqInt64S.f k l0_17 l1_17).bind fun t272 => (if t272 = true then (if a0_18 = a1_18 then (if a0_19 = a1_19 then (some true) else (some false)) else (some false)) else (some false))) else (some false)) else (some false)) else (some false)) else (some false)))))) else (some false)) else (some false)) else (some false))) else (some false)) else (some false)) else (some false))) = some true := h
 clear h
 replace H := Option.bind_eq_some_iff.mp H
 obtain ⟨t270, A30, H⟩ := H
 replace H : (if t270 = true then (if a0_4 = a1_4 then (if a0_5 = a1_5 then (if (a0_6 != a1_6) = true then (some false) else (if a0_7 = a1_7 then (if a0_8 = a1_8 then (if a0_9 = a1_9 then (if (a0_10 != a1_10) = true then (some false) else (if (a0_11 != a1_11) = true then (some false) else (if (a0_12 != a1_12) = true then (some false) else ((laws_eqBoolS.f k l0_13 l1_13).bind fun t271 => (if t271 = true then (if a0_14 = a1_14 then (if a0_15 = a1_15 then (if a0_16 = a1_16 then ((laws_eqInt64S.f k l0_17 l1_17).bind fun t272 => (if t272 = true then (if a0_18 = a1_18 then (if a0_19 = a1_19 then (some true) else (some false)) else (some false)) else (some false))) else (some false)) else (some false)) else (some false)) else (some false)))))) else (some false)) else (some false)) else (some false))) else (some false)) else (some false)) else (some false)) = some true := H
 have A3 := Aside0.mk A30
 clear A30
 by_cases c4 : t270 = true
 ·subst c4
  have H1 : (if a0_4 = a1_4 then (if a0_5 = a1_5 then (if (a0_6 != a1_6) = true then (some false) else (if a0_7 = a1_7 then (if a0_8 = a1_8 then (if a0_9 = a1_9 then (if (a0_10 != a1_10) = true then (some false) else (if (a0_11 != a1_11) = true then (some false) else (if (a0_12 != a1_12) = true then (some false) else ((laws_eqBoolS.f k l0_13 l1_13).bind fun t271 => (if t271 = true then (if a0_14 = a1_14 then (if a0_15 = a1_15 then (if a0_16 = a1_16 then ((laws_eqInt64S.f k l0_17 l1_17).bind fun t272 => (if t272 = true then (if a0_18 = a1_18 then (if a0_19 = a1_19 then (some true) else (some false)) else (some false)) else (some false))) else (some false)) else (some false)) else (some false)) else (some false)))))) else (some false)) else (some false)) else (some false))) else (some false)) else (some false)) = some true := by rw [if_pos rfl] at H; (first | done | exact H)
  clear H
  have H := H1
  clear H1
  by_cases c5 : a0_4 = a1_4
  ·rw [if_pos c5] at H
   have c5b0 : (a0_4 == a1_4) = true := beq_iff_eq.mpr c5
   have c5b1 : (a0_4 != a1_4) = false := bne_eq_false_iff_eq.mpr c5
   clear c5
   by_cases c6 : a0_5 = a1_5
   ·rw [if_pos c6] at H
    have c6b0 : (a0_5 == a1_5) = true := beq_iff_eq.mpr c6
    have c6b1 : (a0_5 != a1_5) = false := bne_eq_false_iff_eq.mpr c6
    clear c6
    by_cases c7 : (a0_6 != a1_6) = true
    ·rw [if_pos c7] at H
     have c7b0 : (a0_6 != a1_6) = true := c7
     (try (have c7b1 : decide (a0_6 = a1_6) = false := by simpa using c7))
     (try (have c7b2 : (a0_6 == a1_6) = false := by simpa using c7))
     (try (have c7b3 : ¬ (a0_6 = a1_6) := by simpa using c7))
     clear c7
     exact absurd H (by simp)
    ·rw [if_neg c7] at H
     have c7b0 : (a0_6 != a1_6) = false := by simpa using c7
     (try (have c7b1 : decide (a0_6 = a1_6) = true := by simpa using c7))
     (try (have c7b2 : (a0_6 == a1_6) = true := by simpa using c7))
     clear c7
     by_cases c8 : a0_7 = a1_7
     ·rw [if_pos c8] at H
      have c8b0 : (a0_7 == a1_7) = true := beq_iff_eq.mpr c8
      have c8b1 : (a0_7 != a1_7) = false := bne_eq_false_iff_eq.mpr c8
      clear c8
      by_cases c9 : a0_8 = a1_8
      ·rw [if_pos c9] at H
       have c9b0 : (a0_8 == a1_8) = true := beq_iff_eq.mpr c9
       have c9b1 : (a0_8 != a1_8) = false := bne_eq_false_iff_eq.mpr c9
       clear c9
       by_cases c10 : a0_9 = a1_9
       ·rw [if_pos c10] at H
        have c10b0 : (a0_9 == a1_9) = true := beq_iff_eq.mpr c10
        have c10b1 : (a0_9 != a1_9) = false := bne_eq_false_iff_eq.mpr c10
        clear c10
        by_cases c11 : (a0_10 != a1_10) = true
        ·rw [if_pos c11] at H
         have c11b0 : (a0_10 != a1_10) = true := c11
         (try (have c11b1 : decide (a0_10 = a1_10) = false := by simpa using c11))
         (try (have c11b2 : (a0_10 == a1_10) = false := by simpa using c11))
         (try (have c11b3 : ¬ (a0_10 = a1_10) := by simpa using c11))
         clear c11
         exact absurd H (by simp)
        ·rw [if_neg c11] at H
         have c11b0 : (a0_10 != a1_10) = false := by simpa using c11
         (try (have c11b1 : decide (a0_10 = a1_10) = true := by simpa using c11))
         (try (have c11b2 : (a0_10 == a1_10) = true := by simpa using c11))
         clear c11
         by_cases c12 : (a0_11 != a1_11) = true
         ·rw [if_pos c12] at H
          have c12b0 : (a0_11 != a1_11) = true := c12
          (try (have c12b1 : decide (a0_11 = a1_11) = false := by simpa using c12))
          (try (have c12b2 : (a0_11 == a1_11) = false := by simpa using c12))
          (try (have c12b3 : ¬ (a0_11 = a1_11) := by simpa using c12))
          clear c12
          exact absurd H (by simp)
         ·rw [if_neg c12] at H
          have c12b0 : (a0_11 != a1_11) = false := by simpa using c12
          (try (have c12b1 : decide (a0_11 = a1_11) = true := by simpa using c12))
          (try (have c12b2 : (a0_11 == a1_11) = true := by simpa using c12))
          clear c12
          by_cases c13 : (a0_12 != a1_12) = true
          ·rw [if_pos c13] at H
           have c13b0 : (a0_12 != a1_12) = true := c13
           (try (have c13b1 : decide (a0_12 = a1_12) = false := by simpa using c13))
           (try (have c13b2 : (a0_12 == a1_12) = false := by simpa using c13))
           (try (have c13b3 : ¬ (a0_12 = a1_12) := by simpa using c13))
           clear c13
           exact absurd H (by simp)
          ·rw [if_neg c13] at H
           have c13b0 : (a0_12 != a1_12) = false := by simpa using c13
           (try (have c13b1 : decide (a0_12 = a1_12) = true := by simpa using c13))
           (try (have c13b2 : (a0_12 == a1_12) = true := by simpa using c13))
           clear c13
           replace H := Option.bind_eq_some_iff.mp H
           obtain ⟨t271, A140, H⟩ := H
           replace H : (if t271 = true then (if a0_14 = a1_14 then (if a0_15 = a1_15 then (if a0_16 = a1_16 then ((laws_eqInt64S.f k l0_17 l1_17).bind fun t272 => (if t272 = true then (if a0_18 = a1_18 then (if a0_19 = a1_19 then (some true) else (some false)) else (some false)) else (some false))) else (some false)) else (some false)) else (some false)) else (some false)) = some true := H
           have A14 := Aside0.mk A140
           clear A140
           by_cases c15 : t271 = true
           ·subst c15
            have H1 : (if a0_14 = a1_14 then (if a0_15 = a1_15 then (if a0_16 = a1_16 then ((laws_eqInt64S.f k l0_17 l1_17).bind fun t272 => (if t272 = true then (if a0_18 = a1_18 then (if a0_19 = a1_19 then (some true) else (some false)) else (some false)) else (some false))) else (some false)) else (some false)) else (some false)) = some true := by rw [if_pos rfl] at H; (first | done | exact H)
            clear H
            have H := H1
            clear H1
            by_cases c16 : a0_14 = a1_14
            ·rw [if_pos c16] at H
             have c16b0 : (a0_14 == a1_14) = true := beq_iff_eq.mpr c16
             have c16b1 : (a0_14 != a1_14) = false := bne_eq_false_iff_eq.mpr c16
             clear c16
             by_cases c17 : a0_15 = a1_15
             ·rw [if_pos c17] at H
              have c17b0 : (a0_15 == a1_15) = true := beq_iff_eq.mpr c17
              have c17b1 : (a0_15 != a1_15) = false := bne_eq_false_iff_eq.mpr c17
              clear c17
              by_cases c18 : a0_16 = a1_16
              ·rw [if_pos c18] at H
               have c18b0 : (a0_16 == a1_16) = true := beq_iff_eq.mpr c18
               have c18b1 : (a0_16 != a1_16) = false := bne_eq_false_iff_eq.mpr c18
               clear c18
               replace H := Option.bind_eq_some_iff.mp H
               obtain ⟨t272, A190, H⟩ := H
               replace H : (if t272 = true then (if a0_18 = a1_18 then (if a0_19 = a1_19 then (some true) else (some false)) else (some false)) else (some false)) = some true := H
               have A19 := Aside0.mk A190
               clear A190
               by_cases c20 : t272 = true
               ·subst c20
                have H1 : (if a0_18 = a1_18 then (if a0_19 = a1_19 then (some true) else (some false)) else (some false)) = some true := by rw [if_pos rfl] at H; (first | done | exact H)
                clear H
                have H := H1
                clear H1
                by_cases c21 : a0_18 = a1_18
                ·rw [if_pos c21] at H
                 have c21b0 : (a0_18 == a1_18) = true := beq_iff_eq.mpr c21
                 have c21b1 : (a0_18 != a1_18) = false := bne_eq_false_iff_eq.mpr c21
                 clear c21
                 by_cases c22 : a0_19 = a1_19
                 ·rw [if_pos c22] at H
                  have c22b0 : (a0_19 == a1_19) = true := beq_iff_eq.mpr c22
                  have c22b1 : (a0_19 != a1_19) = false := bne_eq_false_iff_eq.mpr c22
                  clear c22
                  go_enter Try.func19, Try.ntmps19
                  go_wp2_with (first | ((with_reducible refine gate_dst (N := 2) rfl ?_); refine box_event ?hg (N := 2) ?hd (cs := #[.int .i64 a0_0, .int .i64 a0_1, .slice A0_2 l0_2.length c0_2, .slice A0_3 l0_3.length c0_3, .int .i64 a0_4, .int .i64 a0_5, .bool a0_6, .int .i64 a0_7, .int .i64 a0_8, .int .i64 a0_9, .bool a0_10, .bool a0_11, .bool a0_12, .slice A0_13 l0_13.length c0_13, .int .i64 a0_14, .int .i64 a0_15, .int .i64 a0_16, .slice A0_17 l0_17.length c0_17, .int .i64 a0_18, .int .i64 a0_19]) (t := 43) ?hr ?_; (case hd => rfl); (case hg => rfl); (case hr => first | (go_simp; done) | (go_simp; rfl)); intro gb268 hg w23 hbox hb; have n0_ := Aside0.mk (below_step (be HB.out) hb); have n1_ := Aside0.mk (hbox); have n2_ := Aside0.mk ((by rw [hg]; exact (below_size (be HB.out)) : w.heap.size ≤ gb268)); have n3_ := Aside0.mk ((by rw [hg]; exact (below_size (be HB.out)) : w.heap.size ≤ gb268)); clear HB; have HB := n0_; have BK268 := n1_; have GW268 := n2_; have GE268 := n3_; clear n0_ n1_ n2_ n3_; clear hb hbox hg) | ((with_reducible refine gate_dst (N := 3) rfl ?_); refine box_event ?hg (N := 3) ?hd (cs := #[.int .i64 a1_0, .int .i64 a1_1, .slice A1_2 l1_2.length c1_2, .slice A1_3 l1_3.length c1_3, .int .i64 a1_4, .int .i64 a1_5, .bool a1_6, .int .i64 a1_7, .int .i64 a1_8, .int .i64 a1_9, .bool a1_10, .bool a1_11, .bool a1_12, .slice A1_13 l1_13.length c1_13, .int .i64 a1_14, .int .i64 a1_15, .int .i64 a1_16, .slice A1_17 l1_17.length c1_17, .int .i64 a1_18, .int .i64 a1_19]) (t := 43) ?hr ?_; (case hd => rfl); (case hg => rfl); (case hr => first | (go_simp; done) | (go_simp; rfl)); intro gb269 hg w24 hbox hb; have n0_ := Aside0.mk (blkb hb BK268.out); have n1_ := Aside0.mk (below_step (be HB.out) hb); have n2_ := Aside0.mk (hbox); have n3_ := Aside0.mk ((by rw [hg]; exact (below_size (be HB.out)) : w.heap.size ≤ gb269)); have n4_ := Aside0.mk ((by rw [hg]; exact (below_size (be HB.out)) : w.heap.size ≤ gb269)); have n5_ := Aside0.mk ((blkn hg BK268.out)); have n6_ := Aside0.mk ((blkm hg BK268.out)); clear BK268; clear HB; have BK268 := n0_; have HB := n1_; have BK269 := n2_; have GW269 := n3_; have GE269 := n4_; have NB268_269 := n5_; have NB269_268 := n6_; clear n0_ n1_ n2_ n3_ n4_ n5_ n6_; clear hb hbox hg; have hnb25 := NB268_269.out; have hnc25 := NB269_268.out; obtain ⟨hcz26_0, hcz26_1, hcz26_2, hcz26_3, hcz26_4, hcz26_5, hcz26_6, hcz26_7, hcz26_8, hcz26_9, hcz26_10, hcz26_11, hcz26_12, hcz26_13, hcz26_14, hcz26_15, hcz26_16, hcz26_17, hcz26_18, hcz26_19, hfz26_0, hfz26_1, hfz26_2, hfz26_3, hfz26_4, hfz26_5, hfz26_6, hfz26_7, hfz26_8, hfz26_9, hfz26_10, hfz26_11, hfz26_12, hfz26_13, hfz26_14, hfz26_15, hfz26_16, hfz26_17, hfz26_18, hfz26_19⟩ := cf20 BK268.out; obtain ⟨hcz27_0, hcz27_1, hcz27_2, hcz27_3, hcz27_4, hcz27_5, hcz27_6, hcz27_7, hcz27_8, hcz27_9, hcz27_10, hcz27_11, hcz27_12, hcz27_13, hcz27_14, hcz27_15, hcz27_16, hcz27_17, hcz27_18, hcz27_19, hfz27_0, hfz27_1, hfz27_2, hfz27_3, hfz27_4, hfz27_5, hfz27_6, hfz27_7, hfz27_8, hfz27_9, hfz27_10, hfz27_11, hfz27_12, hfz27_13, hfz27_14, hfz27_15, hfz27_16, hfz27_17, hfz27_18, hfz27_19⟩ := cf20 BK269.out) | ((with_reducible refine gate_callee (f := 33) rfl ?_); refine goesL_ (some 9) rfl rfl Try.func33 (by kernel_rfl) rfl #[.agg #[.int .i64 a0_0, .int .i64 a0_1, .slice A0_2 l0_2.length c0_2, .slice A0_3 l0_3.length c0_3], .agg #[.int .i64 a1_0, .int .i64 a1_1, .slice A1_2 l1_2.length c1_2, .slice A1_3 l1_3.length c1_3]] rfl (by (try simp only [List.map_toArray, List.map_cons, List.map_nil]); first | done | rfl | (simp only [List.length_drop, List.length_take]; rfl)) ?_; (with_reducible refine (laws_eqGrid.calls k a0_0 a0_1 _ _ l0_2 _ _ l0_3 a1_0 a1_1 _ _ l1_2 _ _ l1_3  _ ?side1 ?side2 ?side3 ?side4 ?side5 ?side6 ?side7 ?side8 A3.out).mono ?_); (case side1 => exact kc HR0_2.out HB.out); (case side2 => exact HC0_2.out); (case side3 => exact kc HR0_3.out HB.out); (case side4 => exact HC0_3.out); (case side5 => exact kc HR1_2.out HB.out); (case side6 => exact HC1_2.out); (case side7 => exact kc HR1_3.out HB.out); (case side8 => exact HC1_3.out); rintro e w28 ⟨rfl, hb⟩; refine ⟨_, rfl, ?_⟩; have n0_ := Aside0.mk (blkb hb BK268.out); have n1_ := Aside0.mk (blkb hb BK269.out); have n2_ := Aside0.mk (below_step (be HB.out) hb); clear BK268; clear BK269; clear HB; have BK268 := n0_; have BK269 := n1_; have HB := n2_; clear n0_ n1_ n2_; (try clear hb); (try clear hb2); (try clear hk); (try clear hi); obtain ⟨hcz29_0, hcz29_1, hcz29_2, hcz29_3, hcz29_4, hcz29_5, hcz29_6, hcz29_7, hcz29_8, hcz29_9, hcz29_10, hcz29_11, hcz29_12, hcz29_13, hcz29_14, hcz29_15, hcz29_16, hcz29_17, hcz29_18, hcz29_19, hfz29_0, hfz29_1, hfz29_2, hfz29_3, hfz29_4, hfz29_5, hfz29_6, hfz29_7, hfz29_8, hfz29_9, hfz29_10, hfz29_11, hfz29_12, hfz29_13, hfz29_14, hfz29_15, hfz29_16, hfz29_17, hfz29_18, hfz29_19⟩ := cf20 BK268.out; obtain ⟨hcz30_0, hcz30_1, hcz30_2, hcz30_3, hcz30_4, hcz30_5, hcz30_6, hcz30_7, hcz30_8, hcz30_9, hcz30_10, hcz30_11, hcz30_12, hcz30_13, hcz30_14, hcz30_15, hcz30_16, hcz30_17, hcz30_18, hcz30_19, hfz30_0, hfz30_1, hfz30_2, hfz30_3, hfz30_4, hfz30_5, hfz30_6, hfz30_7, hfz30_8, hfz30_9, hfz30_10, hfz30_11, hfz30_12, hfz30_13, hfz30_14, hfz30_15, hfz30_16, hfz30_17, hfz30_18, hfz30_19⟩ := cf20 BK269.out) | ((with_reducible refine gate_callee (f := 34) rfl ?_); refine goesL_ (some 60) rfl rfl Try.func34 (by kernel_rfl) rfl #[.slice A0_13 l0_13.length c0_13, .slice A1_13 l1_13.length c1_13] rfl (by (try simp only [List.map_toArray, List.map_cons, List.map_nil]); first | done | rfl | (simp only [List.length_drop, List.length_take]; rfl)) ?_; (with_reducible refine (laws_eqBoolS.calls k _ _ l0_13 _ _ l1_13  _ ?side1 ?side2 ?side3 ?side4 A14.out).mono ?_); (case side1 => exact kc HR0_13.out HB.out); (case side2 => exact HC0_13.out); (case side3 => exact kc HR1_13.out HB.out); (case side4 => exact HC1_13.out); rintro e w' ⟨rfl, ⟨nd, rfl⟩⟩; refine ⟨_, rfl, ?_⟩) | ((with_reducible refine gate_callee (f := 32) rfl ?_); refine goesL_ (some 81) rfl rfl Try.func32 (by kernel_rfl) rfl #[.slice A0_17 l0_17.length c0_17, .slice A1_17 l1_17.length c1_17] rfl (by (try simp only [List.map_toArray, List.map_cons, List.map_nil]); first | done | rfl | (simp only [List.length_drop, List.length_take]; rfl)) ?_; (with_reducible refine (laws_eqInt64S.calls k _ _ l0_17 _ _ l1_17  _ ?side1 ?side2 ?side3 ?side4 A19.out).mono ?_); (case side1 => repeat (first | exact (Kd.C_below HR0_17.out (be HB.out)) | (with_reducible refine Kd.C_alloc ?_ _) | (with_reducible refine Kd.C_drewN ?_ _) | (with_reducible refine Kd.C_drew ?_))); (case side2 => exact HC0_17.out); (case side3 => repeat (first | exact (Kd.C_below HR1_17.out (be HB.out)) | (with_reducible refine Kd.C_alloc ?_ _) | (with_reducible refine Kd.C_drewN ?_ _) | (with_reducible refine Kd.C_drew ?_))); (case side4 => exact HC1_17.out); rintro e w' ⟨rfl, ⟨nd, rfl⟩⟩; refine ⟨_, rfl, ?_⟩))
                  go_ret
                  exact ⟨by first | rfl | (simp [errW_none, errW_some] <;> rfl) | (simp [*, errW_none, errW_some] <;> rfl), by repeat (first | (with_reducible first | exact HB.out | apply below_alloc | apply pw_below_drewN | apply below_drew1 | refine below_set ?_ GE268.out | refine below_set ?_ GE269.out) | exact HB.out)⟩
                 ·rw [if_neg c22] at H
                  have c22b0 : (a0_19 == a1_19) = false := beq_eq_false_iff_ne.mpr c22
                  have c22b1 : (a0_19 != a1_19) = true := bne_iff_ne.mpr c22
                  exact absurd H (by simp)
                ·rw [if_neg c21] at H
                 have c21b0 : (a0_18 == a1_18) = false := beq_eq_false_iff_ne.mpr c21
                 have c21b1 : (a0_18 != a1_18) = true := bne_iff_ne.mpr c21
                 exact absurd H (by simp)
               ·replace c20 := Bool.eq_false_iff.mpr c20
                subst c20
                have H1 : (some false) = some true := by rw [if_neg (show ¬ (false = true) by decide)] at H; (first | done | exact H)
                clear H
                have H := H1
                clear H1
                exact absurd H (by simp)
              ·rw [if_neg c18] at H
               have c18b0 : (a0_16 == a1_16) = false := beq_eq_false_iff_ne.mpr c18
               have c18b1 : (a0_16 != a1_16) = true := bne_iff_ne.mpr c18
               exact absurd H (by simp)
             ·rw [if_neg c17] at H
              have c17b0 : (a0_15 == a1_15) = false := beq_eq_false_iff_ne.mpr c17
              have c17b1 : (a0_15 != a1_15) = true := bne_iff_ne.mpr c17
              exact absurd H (by simp)
            ·rw [if_neg c16] at H
             have c16b0 : (a0_14 == a1_14) = false := beq_eq_false_iff_ne.mpr c16
             have c16b1 : (a0_14 != a1_14) = true := bne_iff_ne.mpr c16
             exact absurd H (by simp)
           ·replace c15 := Bool.eq_false_iff.mpr c15
            subst c15
            have H1 : (some false) = some true := by rw [if_neg (show ¬ (false = true) by decide)] at H; (first | done | exact H)
            clear H
            have H := H1
            clear H1
            exact absurd H (by simp)
       ·rw [if_neg c10] at H
        have c10b0 : (a0_9 == a1_9) = false := beq_eq_false_iff_ne.mpr c10
        have c10b1 : (a0_9 != a1_9) = true := bne_iff_ne.mpr c10
        exact absurd H (by simp)
      ·rw [if_neg c9] at H
       have c9b0 : (a0_8 == a1_8) = false := beq_eq_false_iff_ne.mpr c9
       have c9b1 : (a0_8 != a1_8) = true := bne_iff_ne.mpr c9
       exact absurd H (by simp)
     ·rw [if_neg c8] at H
      have c8b0 : (a0_7 == a1_7) = false := beq_eq_false_iff_ne.mpr c8
      have c8b1 : (a0_7 != a1_7) = true := bne_iff_ne.mpr c8
      exact absurd H (by simp)
   ·rw [if_neg c6] at H
    have c6b0 : (a0_5 == a1_5) = false := beq_eq_false_iff_ne.mpr c6
    have c6b1 : (a0_5 != a1_5) = true := bne_iff_ne.mpr c6
    exact absurd H (by simp)
  ·rw [if_neg c5] at H
   have c5b0 : (a0_4 == a1_4) = false := beq_eq_false_iff_ne.mpr c5
   have c5b1 : (a0_4 != a1_4) = true := bne_iff_ne.mpr c5
   exact absurd H (by simp)
 ·replace c4 := Bool.eq_false_iff.mpr c4
  subst c4
  have H1 : (some false) = some true := by rw [if_neg (show ¬ (false = true) by decide)] at H; (first | done | exact H)
  clear H
  have H := H1
  clear H1
  exact absurd H (by simp)

/-! ### laws_eqVt: function 8 -/
def laws_eqVt.f (k : Nat) (a0_0 : Int) (a0_1 : Int) (a0_2 : Int) (a0_3 : Int) (a0_4 : Int) (a0_5 : Bool) (l0_6 : List Int) (a0_7 : Int) (a0_8 : Int) (l0_9 : List (S74)) (l0_10 : List (S74)) (a0_11 : Int) (a0_12 : Int) (a0_13 : Bool) (a0_14 : Int) (a0_15 : Int) (a0_16 : Int) (a0_17 : Bool) (a0_18 : Bool) (a0_19 : Bool) (l0_20 : List Bool) (a0_21 : Int) (a0_22 : Int) (a0_23 : Int) (l0_24 : List Int) (a0_25 : Int) (a0_26 : Int) (a1_0 : Int) (a1_1 : Int) (a1_2 : Int) (a1_3 : Int) (a1_4 : Int) (a1_5 : Bool) (l1_6 : List Int) (a1_7 : Int) (a1_8 : Int) (l1_9 : List (S74)) (l1_10 : List (S74)) (a1_11 : Int) (a1_12 : Int) (a1_13 : Bool) (a1_14 : Int) (a1_15 : Int) (a1_16 : Int) (a1_17 : Bool) (a1_18 : Bool) (a1_19 : Bool) (l1_20 : List Bool) (a1_21 : Int) (a1_22 : Int) (a1_23 : Int) (l1_24 : List Int) (a1_25 : Int) (a1_26 : Int) : Option (Bool) := (laws_eqDecoder.f a0_0 a0_1 a0_2 a1_0 a1_1 a1_2).bind fun t275 => (if t275 = true then ((laws_eqParser.f k a0_3 a0_4 a0_5 l0_6 a1_3 a1_4 a1_5 l1_6).bind fun t276 => (if t276 = true then ((laws_eqScreen.f k a0_7 a0_8 l0_9 l0_10 a0_11 a0_12 a0_13 a0_14 a0_15 a0_16 a0_17 a0_18 a0_19 l0_20 a0_21 a0_22 a0_23 l0_24 a0_25 a0_26 a1_7 a1_8 l1_9 l1_10 a1_11 a1_12 a1_13 a1_14 a1_15 a1_16 a1_17 a1_18 a1_19 l1_20 a1_21 a1_22 a1_23 l1_24 a1_25 a1_26).bind fun t277 => (if t277 = true then (some true) else (some false))) else (some false))) else (some false))
theorem laws_eqVt.mono : ∀ a0 a1 a2 a3 a4 a5 a6 a7 a8 a9 a10 a11 a12 a13 a14 a15 a16 a17 a18 a19 a20 a21 a22 a23 a24 a25 a26 a27 a28 a29 a30 a31 a32 a33 a34 a35 a36 a37 a38 a39 a40 a41 a42 a43 a44 a45 a46 a47 a48 a49 a50 a51 a52 a53 k, LeO (laws_eqVt.f k a0 a1 a2 a3 a4 a5 a6 a7 a8 a9 a10 a11 a12 a13 a14 a15 a16 a17 a18 a19 a20 a21 a22 a23 a24 a25 a26 a27 a28 a29 a30 a31 a32 a33 a34 a35 a36 a37 a38 a39 a40 a41 a42 a43 a44 a45 a46 a47 a48 a49 a50 a51 a52 a53) (laws_eqVt.f (k + 1) a0 a1 a2 a3 a4 a5 a6 a7 a8 a9 a10 a11 a12 a13 a14 a15 a16 a17 a18 a19 a20 a21 a22 a23 a24 a25 a26 a27 a28 a29 a30 a31 a32 a33 a34 a35 a36 a37 a38 a39 a40 a41 a42 a43 a44 a45 a46 a47 a48 a49 a50 a51 a52 a53) := by
 intro a0 a1 a2 a3 a4 a5 a6 a7 a8 a9 a10 a11 a12 a13 a14 a15 a16 a17 a18 a19 a20 a21 a22 a23 a24 a25 a26 a27 a28 a29 a30 a31 a32 a33 a34 a35 a36 a37 a38 a39 a40 a41 a42 a43 a44 a45 a46 a47 a48 a49 a50 a51 a52 a53 k
 unfold laws_eqVt.f
 repeat' first
   | (with_reducible exact laws_eqParser.mono _ _ _ _ _ _ _ _ _)
   | (with_reducible exact laws_eqScreen.mono _ _ _ _ _ _ _ _ _ _ _ _ _ _ _ _ _ _ _ _ _ _ _ _ _ _ _ _ _ _ _ _ _ _ _ _ _ _ _ _ _)
   | (with_reducible exact LeO.refl _)
   | (with_reducible exact LeO.none _)
   | (with_reducible refine LeO.ite ?_ ?_)
   | (with_reducible refine LeO.bind ?_ (fun _ => ?_))
   | exact laws_eqParser.mono _ _ _ _ _ _ _ _ _
   | exact laws_eqScreen.mono _ _ _ _ _ _ _ _ _ _ _ _ _ _ _ _ _ _ _ _ _ _ _ _ _ _ _ _ _ _ _ _ _ _ _ _ _ _ _ _ _
   | exact LeO.none _
   | refine LeO.ite ?_ ?_
   | refine LeO.bind ?_ (fun _ => ?_)
set_option maxHeartbeats 8000000 in
set_option maxRecDepth 100000 in
theorem laws_eqVt.calls (k : Nat) (a0_0 : Int) (a0_1 : Int) (a0_2 : Int) (a0_3 : Int) (a0_4 : Int) (a0_5 : Bool) (A0_6 : Option Addr) (c0_6 : Nat) (l0_6 : List Int) (a0_7 : Int) (a0_8 : Int) (A0_9 : Option Addr) (c0_9 : Nat) (l0_9 : List (S74)) (A0_10 : Option Addr) (c0_10 : Nat) (l0_10 : List (S74)) (a0_11 : Int) (a0_12 : Int) (a0_13 : Bool) (a0_14 : Int) (a0_15 : Int) (a0_16 : Int) (a0_17 : Bool) (a0_18 : Bool) (a0_19 : Bool) (A0_20 : Option Addr) (c0_20 : Nat) (l0_20 : List Bool) (a0_21 : Int) (a0_22 : Int) (a0_23 : Int) (A0_24 : Option Addr) (c0_24 : Nat) (l0_24 : List Int) (a0_25 : Int) (a0_26 : Int) (a1_0 : Int) (a1_1 : Int) (a1_2 : Int) (a1_3 : Int) (a1_4 : Int) (a1_5 : Bool) (A1_6 : Option Addr) (c1_6 : Nat) (l1_6 : List Int) (a1_7 : Int) (a1_8 : Int) (A1_9 : Option Addr) (c1_9 : Nat) (l1_9 : List (S74)) (A1_10 : Option Addr) (c1_10 : Nat) (l1_10 : List (S74)) (a1_11 : Int) (a1_12 : Int) (a1_13 : Bool) (a1_14 : Int) (a1_15 : Int) (a1_16 : Int) (a1_17 : Bool) (a1_18 : Bool) (a1_19 : Bool) (A1_20 : Option Addr) (c1_20 : Nat) (l1_20 : List Bool) (a1_21 : Int) (a1_22 : Int) (a1_23 : Int) (A1_24 : Option Addr) (c1_24 : Nat) (l1_24 : List Int) (a1_25 : Int) (a1_26 : Int) (w : World) (hr0_6 : Kd.C (Kd.int .i64) w A0_6 l0_6.length l0_6) (hc0_6 : l0_6.length ≤ c0_6) (hr0_9 : Kd.C k74 w A0_9 l0_9.length l0_9) (hc0_9 : l0_9.length ≤ c0_9) (hr0_10 : Kd.C k74 w A0_10 l0_10.length l0_10) (hc0_10 : l0_10.length ≤ c0_10) (hr0_20 : Kd.C Kd.bool w A0_20 l0_20.length l0_20) (hc0_20 : l0_20.length ≤ c0_20) (hr0_24 : Kd.C (Kd.int .i64) w A0_24 l0_24.length l0_24) (hc0_24 : l0_24.length ≤ c0_24) (hr1_6 : Kd.C (Kd.int .i64) w A1_6 l1_6.length l1_6) (hc1_6 : l1_6.length ≤ c1_6) (hr1_9 : Kd.C k74 w A1_9 l1_9.length l1_9) (hc1_9 : l1_9.length ≤ c1_9) (hr1_10 : Kd.C k74 w A1_10 l1_10.length l1_10) (hc1_10 : l1_10.length ≤ c1_10) (hr1_20 : Kd.C Kd.bool w A1_20 l1_20.length l1_20) (hc1_20 : l1_20.length ≤ c1_20) (hr1_24 : Kd.C (Kd.int .i64) w A1_24 l1_24.length l1_24) (hc1_24 : l1_24.length ≤ c1_24) (h : laws_eqVt.f k a0_0 a0_1 a0_2 a0_3 a0_4 a0_5 l0_6 a0_7 a0_8 l0_9 l0_10 a0_11 a0_12 a0_13 a0_14 a0_15 a0_16 a0_17 a0_18 a0_19 l0_20 a0_21 a0_22 a0_23 l0_24 a0_25 a0_26 a1_0 a1_1 a1_2 a1_3 a1_4 a1_5 l1_6 a1_7 a1_8 l1_9 l1_10 a1_11 a1_12 a1_13 a1_14 a1_15 a1_16 a1_17 a1_18 a1_19 l1_20 a1_21 a1_22 a1_23 l1_24 a1_25 a1_26 = some true) :
  Calls Try.prog 8 #[.agg #[.int .i64 a0_0, .int .i64 a0_1, .int .i64 a0_2, .int .i64 a0_3, .int .i64 a0_4, .bool a0_5, .slice A0_6 l0_6.length c0_6, .int .i64 a0_7, .int .i64 a0_8, .slice A0_9 l0_9.length c0_9, .slice A0_10 l0_10.length c0_10, .int .i64 a0_11, .int .i64 a0_12, .bool a0_13, .int .i64 a0_14, .int .i64 a0_15, .int .i64 a0_16, .bool a0_17, .bool a0_18, .bool a0_19, .slice A0_20 l0_20.length c0_20, .int .i64 a0_21, .int .i64 a0_22, .int .i64 a0_23, .slice A0_24 l0_24.length c0_24, .int .i64 a0_25, .int .i64 a0_26], .agg #[.int .i64 a1_0, .int .i64 a1_1, .int .i64 a1_2, .int .i64 a1_3, .int .i64 a1_4, .bool a1_5, .slice A1_6 l1_6.length c1_6, .int .i64 a1_7, .int .i64 a1_8, .slice A1_9 l1_9.length c1_9, .slice A1_10 l1_10.length c1_10, .int .i64 a1_11, .int .i64 a1_12, .bool a1_13, .int .i64 a1_14, .int .i64 a1_15, .int .i64 a1_16, .bool a1_17, .bool a1_18, .bool a1_19, .slice A1_20 l1_20.length c1_20, .int .i64 a1_21, .int .i64 a1_22, .int .i64 a1_23, .slice A1_24 l1_24.length c1_24, .int .i64 a1_25, .int .i64 a1_26]] w fun e w' => e = .returned (.bool true) ∧ Below w.heap.size w w' := by
 have hu45 := Try.underlying45
 have hu37 := Try.underlying37
 have hu38 := Try.underlying38
 have hu43 := Try.underlying43
 have HR0_6 := Aside0.mk hr0_6
 have HC0_6 := Aside0.mk hc0_6
 clear hr0_6 hc0_6
 have HR0_9 := Aside0.mk hr0_9
 have HC0_9 := Aside0.mk hc0_9
 clear hr0_9 hc0_9
 have HR0_10 := Aside0.mk hr0_10
 have HC0_10 := Aside0.mk hc0_10
 clear hr0_10 hc0_10
 have HR0_20 := Aside0.mk hr0_20
 have HC0_20 := Aside0.mk hc0_20
 clear hr0_20 hc0_20
 have HR0_24 := Aside0.mk hr0_24
 have HC0_24 := Aside0.mk hc0_24
 clear hr0_24 hc0_24
 have HR1_6 := Aside0.mk hr1_6
 have HC1_6 := Aside0.mk hc1_6
 clear hr1_6 hc1_6
 have HR1_9 := Aside0.mk hr1_9
 have HC1_9 := Aside0.mk hc1_9
 clear hr1_9 hc1_9
 have HR1_10 := Aside0.mk hr1_10
 have HC1_10 := Aside0.mk hc1_10
 clear hr1_10 hc1_10
 have HR1_20 := Aside0.mk hr1_20
 have HC1_20 := Aside0.mk hc1_20
 clear hr1_20 hc1_20
 have HR1_24 := Aside0.mk hr1_24
 have HC1_24 := Aside0.mk hc1_24
 clear hr1_24 hc1_24
 have HB := Aside0.mk (Below.refl w.heap.size w)
 have H : ((laws_eqDecoder.f a0_0 a0_1 a0_2 a1_0 a1_1 a1_2).bind fun t275 => (if t275 = true then ((laws_eqParser.f k a0_3 a0_4 a0_5 l0_6 a1_3 a1_4 a1_5 l1_6).bind fun t276 => (if t276 = true then ((laws_eqScreen.f k a0_7 a0_8 l0_9 l0_10 a0_11 a0_12 a0_13 a0_14 a0_15 a0_16 a0_17 a0_18 a0_19 l0_20 a0_21 a0_22 a0_23 l0_24 a0_25 a0_26 a1_7 a1_8 l1_9 l1_10 a1_11 a1_12 a1_13 a1_14 a1_15 a1_16 a1_17 a1_18 a1_19 l1_20 a1_21 a1_22 a1_23 l1_24 a1_25 a1_26).bind fun t277 => (if t277 = true then (some true) else (some false))) else (some false))) else (some false))) = some true := h
 clear h
 replace H := Option.bind_eq_some_iff.mp H
 obtain ⟨t275, A30, H⟩ := H
 replace H : (if t275 = true then ((laws_eqParser.f k a0_3 a0_4 a0_5 l0_6 a1_3 a1_4 a1_5 l1_6).bind fun t276 => (if t276 = true then ((laws_eqScreen.f k a0_7 a0_8 l0_9 l0_10 a0_11 a0_12 a0_13 a0_14 a0_15 a0_16 a0_17 a0_18 a0_19 l0_20 a0_21 a0_22 a0_23 l0_24 a0_25 a0_26 a1_7 a1_8 l1_9 l1_10 a1_11 a1_12 a1_13 a1_14 a1_15 a1_16 a1_17 a1_18 a1_19 l1_20 a1_21 a1_22 a1_23 l1_24 a1_25 a1_26).bind fun t277 => (if t277 = true then (some true) else (some false))) else (some false))) else (some false)) = some true := H
 have A3 := Aside0.mk A30
 clear A30
 by_cases c4 : t275 = true
 ·subst c4
  have H1 : ((laws_eqParser.f k a0_3 a0_4 a0_5 l0_6 a1_3 a1_4 a1_5 l1_6).bind fun t276 => (if t276 = true then ((laws_eqScreen.f k a0_7 a0_8 l0_9 l0_10 a0_11 a0_12 a0_13 a0_14 a0_15 a0_16 a0_17 a0_18 a0_19 l0_20 a0_21 a0_22 a0_23 l0_24 a0_25 a0_26 a1_7 a1_8 l1_9 l1_10 a1_11 a1_12 a1_13 a1_14 a1_15 a1_16 a1_17 a1_18 a1_19 l1_20 a1_21 a1_22 a1_23 l1_24 a1_25 a1_26).bind fun t277 => (if t277 = true then (some true) else (some false))) else (some false))) = some true := by rw [if_pos rfl] at H; (first | done | exact H)
  clear H
  have H := H1
  clear H1
  replace H := Option.bind_eq_some_iff.mp H
  obtain ⟨t276, A50, H⟩ := H
  replace H : (if t276 = true then ((laws_eqScreen.f k a0_7 a0_8 l0_9 l0_10 a0_11 a0_12 a0_13 a0_14 a0_15 a0_16 a0_17 a0_18 a0_19 l0_20 a0_21 a0_22 a0_23 l0_24 a0_25 a0_26 a1_7 a1_8 l1_9 l1_10 a1_11 a1_12 a1_13 a1_14 a1_15 a1_16 a1_17 a1_18 a1_19 l1_20 a1_21 a1_22 a1_23 l1_24 a1_25 a1_26).bind fun t277 => (if t277 = true then (some true) else (some false))) else (some false)) = some true := H
  have A5 := Aside0.mk A50
  clear A50
  by_cases c6 : t276 = true
  ·subst c6
   have H1 : ((laws_eqScreen.f k a0_7 a0_8 l0_9 l0_10 a0_11 a0_12 a0_13 a0_14 a0_15 a0_16 a0_17 a0_18 a0_19 l0_20 a0_21 a0_22 a0_23 l0_24 a0_25 a0_26 a1_7 a1_8 l1_9 l1_10 a1_11 a1_12 a1_13 a1_14 a1_15 a1_16 a1_17 a1_18 a1_19 l1_20 a1_21 a1_22 a1_23 l1_24 a1_25 a1_26).bind fun t277 => (if t277 = true then (some true) else (some false))) = some true := by rw [if_pos rfl] at H; (first | done | exact H)
   clear H
   have H := H1
   clear H1
   replace H := Option.bind_eq_some_iff.mp H
   obtain ⟨t277, A70, H⟩ := H
   replace H : (if t277 = true then (some true) else (some false)) = some true := H
   have A7 := Aside0.mk A70
   clear A70
   by_cases c8 : t277 = true
   ·subst c8
    have H1 : (some true) = some true := by rw [if_pos rfl] at H; (first | done | exact H)
    clear H
    have H := H1
    clear H1
    go_enter Try.func8, Try.ntmps8
    go_wp2_with (first | ((with_reducible refine gate_load (t := 43) (p := 17) rfl ?_); refine loadP (ty := 43) (p := 17) (g := gb273) (off := 7) (all := [.int .i64 a0_0, .int .i64 a0_1, .int .i64 a0_2, .int .i64 a0_3, .int .i64 a0_4, .bool a0_5, .slice A0_6 l0_6.length c0_6, .int .i64 a0_7, .int .i64 a0_8, .slice A0_9 l0_9.length c0_9, .slice A0_10 l0_10.length c0_10, .int .i64 a0_11, .int .i64 a0_12, .bool a0_13, .int .i64 a0_14, .int .i64 a0_15, .int .i64 a0_16, .bool a0_17, .bool a0_18, .bool a0_19, .slice A0_20 l0_20.length c0_20, .int .i64 a0_21, .int .i64 a0_22, .int .i64 a0_23, .slice A0_24 l0_24.length c0_24, .int .i64 a0_25, .int .i64 a0_26]) (cells := [.int .i64 a0_7, .int .i64 a0_8, .slice A0_9 l0_9.length c0_9, .slice A0_10 l0_10.length c0_10, .int .i64 a0_11, .int .i64 a0_12, .bool a0_13, .int .i64 a0_14, .int .i64 a0_15, .int .i64 a0_16, .bool a0_17, .bool a0_18, .bool a0_19, .slice A0_20 l0_20.length c0_20, .int .i64 a0_21, .int .i64 a0_22, .int .i64 a0_23, .slice A0_24 l0_24.length c0_24, .int .i64 a0_25, .int .i64 a0_26]) (t := 45) ?hg ?ho ?hx (pl BK273.out) Try.underlying43 rfl ?hi rfl ?_; (case ho => rfl); (case hg => rfl); (case hx => rfl); (case hi => kernel_rfl)) | ((with_reducible refine gate_load (t := 43) (p := 19) rfl ?_); refine loadP (ty := 43) (p := 19) (g := gb274) (off := 7) (all := [.int .i64 a1_0, .int .i64 a1_1, .int .i64 a1_2, .int .i64 a1_3, .int .i64 a1_4, .bool a1_5, .slice A1_6 l1_6.length c1_6, .int .i64 a1_7, .int .i64 a1_8, .slice A1_9 l1_9.length c1_9, .slice A1_10 l1_10.length c1_10, .int .i64 a1_11, .int .i64 a1_12, .bool a1_13, .int .i64 a1_14, .int .i64 a1_15, .int .i64 a1_16, .bool a1_17, .bool a1_18, .bool a1_19, .slice A1_20 l1_20.length c1_20, .int .i64 a1_21, .int .i64 a1_22, .int .i64 a1_23, .slice A1_24 l1_24.length c1_24, .int .i64 a1_25, .int .i64 a1_26]) (cells := [.int .i64 a1_7, .int .i64 a1_8, .slice A1_9 l1_9.length c1_9, .slice A1_10 l1_10.length c1_10, .int .i64 a1_11, .int .i64 a1_12, .bool a1_13, .int .i64 a1_14, .int .i64 a1_15, .int .i64 a1_16, .bool a1_17, .bool a1_18, .bool a1_19, .slice A1_20 l1_20.length c1_20, .int .i64 a1_21, .int .i64 a1_22, .int .i64 a1_23, .slice A1_24 l1_24.length c1_24, .int .i64 a1_25, .int .i64 a1_26]) (t := 45) ?hg ?ho ?hx (pl BK274.out) Try.underlying43 rfl ?hi rfl ?_; (case ho => rfl); (case hg => rfl); (case hx => rfl); (case hi => kernel_rfl)) | ((with_reducible refine gate_dst (N := 2) rfl ?_); refine box_event ?hg (N := 2) ?hd (cs := #[.int .i64 a0_0, .int .i64 a0_1, .int .i64 a0_2, .int .i64 a0_3, .int .i64 a0_4, .bool a0_5, .slice A0_6 l0_6.length c0_6, .int .i64 a0_7, .int .i64 a0_8, .slice A0_9 l0_9.length c0_9, .slice A0_10 l0_10.length c0_10, .int .i64 a0_11, .int .i64 a0_12, .bool a0_13, .int .i64 a0_14, .int .i64 a0_15, .int .i64 a0_16, .bool a0_17, .bool a0_18, .bool a0_19, .slice A0_20 l0_20.length c0_20, .int .i64 a0_21, .int .i64 a0_22, .int .i64 a0_23, .slice A0_24 l0_24.length c0_24, .int .i64 a0_25, .int .i64 a0_26]) (t := 45) ?hr ?_; (case hd => rfl); (case hg => rfl); (case hr => first | (go_simp; done) | (go_simp; rfl)); intro gb273 hg w9 hbox hb; have n0_ := Aside0.mk (below_step (be HB.out) hb); have n1_ := Aside0.mk (hbox); have n2_ := Aside0.mk ((by rw [hg]; exact (below_size (be HB.out)) : w.heap.size ≤ gb273)); have n3_ := Aside0.mk ((by rw [hg]; exact (below_size (be HB.out)) : w.heap.size ≤ gb273)); clear HB; have HB := n0_; have BK273 := n1_; have GW273 := n2_; have GE273 := n3_; clear n0_ n1_ n2_ n3_; clear hb hbox hg) | ((with_reducible refine gate_dst (N := 3) rfl ?_); refine box_event ?hg (N := 3) ?hd (cs := #[.int .i64 a1_0, .int .i64 a1_1, .int .i64 a1_2, .int .i64 a1_3, .int .i64 a1_4, .bool a1_5, .slice A1_6 l1_6.length c1_6, .int .i64 a1_7, .int .i64 a1_8, .slice A1_9 l1_9.length c1_9, .slice A1_10 l1_10.length c1_10, .int .i64 a1_11, .int .i64 a1_12, .bool a1_13, .int .i64 a1_14, .int .i64 a1_15, .int .i64 a1_16, .bool a1_17, .bool a1_18, .bool a1_19, .slice A1_20 l1_20.length c1_20, .int .i64 a1_21, .int .i64 a1_22, .int .i64 a1_23, .slice A1_24 l1_24.length c1_24, .int .i64 a1_25, .int .i64 a1_26]) (t := 45) ?hr ?_; (case hd => rfl); (case hg => rfl); (case hr => first | (go_simp; done) | (go_simp; rfl)); intro gb274 hg w10 hbox hb; have n0_ := Aside0.mk (blkb hb BK273.out); have n1_ := Aside0.mk (below_step (be HB.out) hb); have n2_ := Aside0.mk (hbox); have n3_ := Aside0.mk ((by rw [hg]; exact (below_size (be HB.out)) : w.heap.size ≤ gb274)); have n4_ := Aside0.mk ((by rw [hg]; exact (below_size (be HB.out)) : w.heap.size ≤ gb274)); have n5_ := Aside0.mk ((blkn hg BK273.out)); have n6_ := Aside0.mk ((blkm hg BK273.out)); clear BK273; clear HB; have BK273 := n0_; have HB := n1_; have BK274 := n2_; have GW274 := n3_; have GE274 := n4_; have NB273_274 := n5_; have NB274_273 := n6_; clear n0_ n1_ n2_ n3_ n4_ n5_ n6_; clear hb hbox hg; have hnb11 := NB273_274.out; have hnc11 := NB274_273.out; obtain ⟨hcz12_0, hcz12_1, hcz12_2, hcz12_3, hcz12_4, hcz12_5, hcz12_6, hcz12_7, hcz12_8, hcz12_9, hcz12_10, hcz12_11, hcz12_12, hcz12_13, hcz12_14, hcz12_15, hcz12_16, hcz12_17, hcz12_18, hcz12_19, hcz12_20, hcz12_21, hcz12_22, hcz12_23, hcz12_24, hcz12_25, hcz12_26, hfz12_0, hfz12_1, hfz12_2, hfz12_3, hfz12_4, hfz12_5, hfz12_6, hfz12_7, hfz12_8, hfz12_9, hfz12_10, hfz12_11, hfz12_12, hfz12_13, hfz12_14, hfz12_15, hfz12_16, hfz12_17, hfz12_18, hfz12_19, hfz12_20, hfz12_21, hfz12_22, hfz12_23, hfz12_24, hfz12_25, hfz12_26⟩ := cf27 BK273.out; obtain ⟨hcz13_0, hcz13_1, hcz13_2, hcz13_3, hcz13_4, hcz13_5, hcz13_6, hcz13_7, hcz13_8, hcz13_9, hcz13_10, hcz13_11, hcz13_12, hcz13_13, hcz13_14, hcz13_15, hcz13_16, hcz13_17, hcz13_18, hcz13_19, hcz13_20, hcz13_21, hcz13_22, hcz13_23, hcz13_24, hcz13_25, hcz13_26, hfz13_0, hfz13_1, hfz13_2, hfz13_3, hfz13_4, hfz13_5, hfz13_6, hfz13_7, hfz13_8, hfz13_9, hfz13_10, hfz13_11, hfz13_12, hfz13_13, hfz13_14, hfz13_15, hfz13_16, hfz13_17, hfz13_18, hfz13_19, hfz13_20, hfz13_21, hfz13_22, hfz13_23, hfz13_24, hfz13_25, hfz13_26⟩ := cf27 BK274.out) | ((with_reducible refine gate_callee (f := 17) rfl ?_); refine goesL_ (some 9) rfl rfl Try.func17 (by kernel_rfl) rfl #[.agg #[.int .i64 a0_0, .int .i64 a0_1, .int .i64 a0_2], .agg #[.int .i64 a1_0, .int .i64 a1_1, .int .i64 a1_2]] rfl (by (try simp only [List.map_toArray, List.map_cons, List.map_nil]); first | done | rfl | (simp only [List.length_drop, List.length_take]; rfl)) ?_; (with_reducible refine (laws_eqDecoder.calls a0_0 a0_1 a0_2 a1_0 a1_1 a1_2  _ A3.out).mono ?_); rintro e w14 ⟨rfl, hb⟩; refine ⟨_, rfl, ?_⟩; have n0_ := Aside0.mk (blkb hb BK273.out); have n1_ := Aside0.mk (blkb hb BK274.out); have n2_ := Aside0.mk (below_step (be HB.out) hb); clear BK273; clear BK274; clear HB; have BK273 := n0_; have BK274 := n1_; have HB := n2_; clear n0_ n1_ n2_; (try clear hb); (try clear hb2); (try clear hk); (try clear hi); obtain ⟨hcz15_0, hcz15_1, hcz15_2, hcz15_3, hcz15_4, hcz15_5, hcz15_6, hcz15_7, hcz15_8, hcz15_9, hcz15_10, hcz15_11, hcz15_12, hcz15_13, hcz15_14, hcz15_15, hcz15_16, hcz15_17, hcz15_18, hcz15_19, hcz15_20, hcz15_21, hcz15_22, hcz15_23, hcz15_24, hcz15_25, hcz15_26, hfz15_0, hfz15_1, hfz15_2, hfz15_3, hfz15_4, hfz15_5, hfz15_6, hfz15_7, hfz15_8, hfz15_9, hfz15_10, hfz15_11, hfz15_12, hfz15_13, hfz15_14, hfz15_15, hfz15_16, hfz15_17, hfz15_18, hfz15_19, hfz15_20, hfz15_21, hfz15_22, hfz15_23, hfz15_24, hfz15_25, hfz15_26⟩ := cf27 BK273.out; obtain ⟨hcz16_0, hcz16_1, hcz16_2, hcz16_3, hcz16_4, hcz16_5, hcz16_6, hcz16_7, hcz16_8, hcz16_9, hcz16_10, hcz16_11, hcz16_12, hcz16_13, hcz16_14, hcz16_15, hcz16_16, hcz16_17, hcz16_18, hcz16_19, hcz16_20, hcz16_21, hcz16_22, hcz16_23, hcz16_24, hcz16_25, hcz16_26, hfz16_0, hfz16_1, hfz16_2, hfz16_3, hfz16_4, hfz16_5, hfz16_6, hfz16_7, hfz16_8, hfz16_9, hfz16_10, hfz16_11, hfz16_12, hfz16_13, hfz16_14, hfz16_15, hfz16_16, hfz16_17, hfz16_18, hfz16_19, hfz16_20, hfz16_21, hfz16_22, hfz16_23, hfz16_24, hfz16_25, hfz16_26⟩ := cf27 BK274.out) | ((with_reducible refine gate_callee (f := 18) rfl ?_); refine goesL_ (some 15) rfl rfl Try.func18 (by kernel_rfl) rfl #[.agg #[.int .i64 a0_3, .int .i64 a0_4, .bool a0_5, .slice A0_6 l0_6.length c0_6], .agg #[.int .i64 a1_3, .int .i64 a1_4, .bool a1_5, .slice A1_6 l1_6.length c1_6]] rfl (by (try simp only [List.map_toArray, List.map_cons, List.map_nil]); first | done | rfl | (simp only [List.length_drop, List.length_take]; rfl)) ?_; (with_reducible refine (laws_eqParser.calls k a0_3 a0_4 a0_5 _ _ l0_6 a1_3 a1_4 a1_5 _ _ l1_6  _ ?side1 ?side2 ?side3 ?side4 A5.out).mono ?_); (case side1 => exact kc HR0_6.out HB.out); (case side2 => exact HC0_6.out); (case side3 => exact kc HR1_6.out HB.out); (case side4 => exact HC1_6.out); rintro e w17 ⟨rfl, hb⟩; refine ⟨_, rfl, ?_⟩; have n0_ := Aside0.mk (blkb hb BK273.out); have n1_ := Aside0.mk (blkb hb BK274.out); have n2_ := Aside0.mk (below_step (be HB.out) hb); clear BK273; clear BK274; clear HB; have BK273 := n0_; have BK274 := n1_; have HB := n2_; clear n0_ n1_ n2_; (try clear hb); (try clear hb2); (try clear hk); (try clear hi); obtain ⟨hcz18_0, hcz18_1, hcz18_2, hcz18_3, hcz18_4, hcz18_5, hcz18_6, hcz18_7, hcz18_8, hcz18_9, hcz18_10, hcz18_11, hcz18_12, hcz18_13, hcz18_14, hcz18_15, hcz18_16, hcz18_17, hcz18_18, hcz18_19, hcz18_20, hcz18_21, hcz18_22, hcz18_23, hcz18_24, hcz18_25, hcz18_26, hfz18_0, hfz18_1, hfz18_2, hfz18_3, hfz18_4, hfz18_5, hfz18_6, hfz18_7, hfz18_8, hfz18_9, hfz18_10, hfz18_11, hfz18_12, hfz18_13, hfz18_14, hfz18_15, hfz18_16, hfz18_17, hfz18_18, hfz18_19, hfz18_20, hfz18_21, hfz18_22, hfz18_23, hfz18_24, hfz18_25, hfz18_26⟩ := cf27 BK273.out; obtain ⟨hcz19_0, hcz19_1, hcz19_2, hcz19_3, hcz19_4, hcz19_5, hcz19_6, hcz19_7, hcz19_8, hcz19_9, hcz19_10, hcz19_11, hcz19_12, hcz19_13, hcz19_14, hcz19_15, hcz19_16, hcz19_17, hcz19_18, hcz19_19, hcz19_20, hcz19_21, hcz19_22, hcz19_23, hcz19_24, hcz19_25, hcz19_26, hfz19_0, hfz19_1, hfz19_2, hfz19_3, hfz19_4, hfz19_5, hfz19_6, hfz19_7, hfz19_8, hfz19_9, hfz19_10, hfz19_11, hfz19_12, hfz19_13, hfz19_14, hfz19_15, hfz19_16, hfz19_17, hfz19_18, hfz19_19, hfz19_20, hfz19_21, hfz19_22, hfz19_23, hfz19_24, hfz19_25, hfz19_26⟩ := cf27 BK274.out) | ((with_reducible refine gate_callee (f := 19) rfl ?_); refine goesL_ (some 21) rfl rfl Try.func19 (by kernel_rfl) rfl #[.agg #[.int .i64 a0_7, .int .i64 a0_8, .slice A0_9 l0_9.length c0_9, .slice A0_10 l0_10.length c0_10, .int .i64 a0_11, .int .i64 a0_12, .bool a0_13, .int .i64 a0_14, .int .i64 a0_15, .int .i64 a0_16, .bool a0_17, .bool a0_18, .bool a0_19, .slice A0_20 l0_20.length c0_20, .int .i64 a0_21, .int .i64 a0_22, .int .i64 a0_23, .slice A0_24 l0_24.length c0_24, .int .i64 a0_25, .int .i64 a0_26], .agg #[.int .i64 a1_7, .int .i64 a1_8, .slice A1_9 l1_9.length c1_9, .slice A1_10 l1_10.length c1_10, .int .i64 a1_11, .int .i64 a1_12, .bool a1_13, .int .i64 a1_14, .int .i64 a1_15, .int .i64 a1_16, .bool a1_17, .bool a1_18, .bool a1_19, .slice A1_20 l1_20.length c1_20, .int .i64 a1_21, .int .i64 a1_22, .int .i64 a1_23, .slice A1_24 l1_24.length c1_24, .int .i64 a1_25, .int .i64 a1_26]] rfl (by (try simp only [List.map_toArray, List.map_cons, List.map_nil]); first | done | rfl | (simp only [List.length_drop, List.length_take]; rfl)) ?_; (with_reducible refine (laws_eqScreen.calls k a0_7 a0_8 _ _ l0_9 _ _ l0_10 a0_11 a0_12 a0_13 a0_14 a0_15 a0_16 a0_17 a0_18 a0_19 _ _ l0_20 a0_21 a0_22 a0_23 _ _ l0_24 a0_25 a0_26 a1_7 a1_8 _ _ l1_9 _ _ l1_10 a1_11 a1_12 a1_13 a1_14 a1_15 a1_16 a1_17 a1_18 a1_19 _ _ l1_20 a1_21 a1_22 a1_23 _ _ l1_24 a1_25 a1_26  _ ?side1 ?side2 ?side3 ?side4 ?side5 ?side6 ?side7 ?side8 ?side9 ?side10 ?side11 ?side12 ?side13 ?side14 ?side15 ?side16 A7.out).mono ?_); (case side1 => exact kc HR0_9.out HB.out); (case side2 => exact HC0_9.out); (case side3 => exact kc HR0_10.out HB.out); (case side4 => exact HC0_10.out); (case side5 => exact kc HR0_20.out HB.out); (case side6 => exact HC0_20.out); (case side7 => exact kc HR0_24.out HB.out); (case side8 => exact HC0_24.out); (case side9 => exact kc HR1_9.out HB.out); (case side10 => exact HC1_9.out); (case side11 => exact kc HR1_10.out HB.out); (case side12 => exact HC1_10.out); (case side13 => exact kc HR1_20.out HB.out); (case side14 => exact HC1_20.out); (case side15 => exact kc HR1_24.out HB.out); (case side16 => exact HC1_24.out); rintro e w20 ⟨rfl, hb⟩; refine ⟨_, rfl, ?_⟩; have n0_ := Aside0.mk (blkb hb BK273.out); have n1_ := Aside0.mk (blkb hb BK274.out); have n2_ := Aside0.mk (below_step (be HB.out) hb); clear BK273; clear BK274; clear HB; have BK273 := n0_; have BK274 := n1_; have HB := n2_; clear n0_ n1_ n2_; (try clear hb); (try clear hb2); (try clear hk); (try clear hi)))
    go_ret
    exact ⟨by first | rfl | (simp [errW_none, errW_some] <;> rfl) | (simp [*, errW_none, errW_some] <;> rfl), by repeat (first | (with_reducible first | exact HB.out | apply below_alloc | apply pw_below_drewN | apply below_drew1 | refine below_set ?_ GE273.out | refine below_set ?_ GE274.out) | exact HB.out)⟩
   ·replace c8 := Bool.eq_false_iff.mpr c8
    subst c8
    have H1 : (some false) = some true := by rw [if_neg (show ¬ (false = true) by decide)] at H; (first | done | exact H)
    clear H
    have H := H1
    clear H1
    exact absurd H (by simp)
  ·replace c6 := Bool.eq_false_iff.mpr c6
   subst c6
   have H1 : (some false) = some true := by rw [if_neg (show ¬ (false = true) by decide)] at H; (first | done | exact H)
   clear H
   have H := H1
   clear H1
   exact absurd H (by simp)
 ·replace c4 := Bool.eq_false_iff.mpr c4
  subst c4
  have H1 : (some false) = some true := by rw [if_neg (show ¬ (false = true) by decide)] at H; (first | done | exact H)
  clear H
  have H := H1
  clear H1
  exact absurd H (by simp)

end Go.Proofs.Ytckgkblpbfckdaa.PFnExactSameVts
