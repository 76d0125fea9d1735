-- Written for this claim by a program of this session's (wip/p2.sh).
import Derived.Test.YtckgkblpbfckdaaPFnExactSameVtsx0
import Derived.Test.YtckgkblpbfckdaaQgBrief
import Derived.Test.YtckgkblpbfckdaaQgQuick
import Derived.Test.YtckgkblpbfckdaaPFnExactSameVtsx3
import Derived.Test.YtckgkblpbfckdaaPFnExactSameVtsx5
namespace Go.Proofs.Ytckgkblpbfckdaa.PFnExactSameVts
open Go.RowKit Go.Proofs.YtckgkblpbfckdaaW.PrintWords Go.Proofs.YtckgkblpbfckdaaW.PrintLast Go.Proofs.YtckgkblpbfckdaaW.PrintMore Go.Proofs.YtckgkblpbfckdaaQuick Go.Proofs.YtckgkblpbfckdaaBrief Go.Proofs.YtckgkblpbfckdaaCells
attribute [local go_sem] max2_int min2_int max_two min_two max_three min_three max_four min_four   -- for this text's walks alone
set_option linter.unusedVariables false
set_option linter.unusedSimpArgs false

/-! ### spec_l5Shown: function 24 -/
mutual
def spec_l5Shown.j0 : Nat → Bool → Int → Int → List (S74) → List (S74) → Int → Int → Bool → Int → Int → Int → Bool → Bool → Bool → List Bool → Int → Int → Int → List Int → Int → Int → Int → Int → List (S74) → List (S74) → Int → Int → Bool → Int → Int → Int → Bool → Bool → Bool → List Bool → Int → Int → Int → List Int → Int → Int → Option (Bool)
 | 0, _, _, _, _, _, _, _, _, _, _, _, _, _, _, _, _, _, _, _, _, _, _, _, _, _, _, _, _, _, _, _, _, _, _, _, _, _, _, _, _, _ => none
 | k + 1, x42, x51000, x51001, x51002, x51003, x51004, x51005, x51006, x51007, x51008, x51009, x51010, x51011, x51012, x51013, x51014, x51015, x51016, x51017, x51018, x51019, x52000, x52001, x52002, x52003, x52004, x52005, x52006, x52007, x52008, x52009, x52010, x52011, x52012, x52013, x52014, x52015, x52016, x52017, x52018, x52019 => if x42 = true then (some false) else (if x51004 = x52004 then (if x51005 = x52005 then (if (x51006 != x52006) = true then (spec_l5Shown.j1 k true x51000 x51001 x51002 x51003 x51004 x51005 x51006 x51007 x51008 x51009 x51010 x51011 x51012 x51013 x51014 x51015 x51016 x51017 x51018 x51019 x52000 x52001 x52002 x52003 x52004 x52005 x52006 x52007 x52008 x52009 x52010 x52011 x52012 x52013 x52014 x52015 x52016 x52017 x52018 x52019) else (if x51007 = x52007 then (if x51008 = x52008 then (spec_l5Shown.j1 k (x51009 != x52009) x51000 x51001 x51002 x51003 x51004 x51005 x51006 x51007 x51008 x51009 x51010 x51011 x51012 x51013 x51014 x51015 x51016 x51017 x51018 x51019 x52000 x52001 x52002 x52003 x52004 x52005 x52006 x52007 x52008 x52009 x52010 x52011 x52012 x52013 x52014 x52015 x52016 x52017 x52018 x52019) else (spec_l5Shown.j1 k true x51000 x51001 x51002 x51003 x51004 x51005 x51006 x51007 x51008 x51009 x51010 x51011 x51012 x51013 x51014 x51015 x51016 x51017 x51018 x51019 x52000 x52001 x52002 x52003 x52004 x52005 x52006 x52007 x52008 x52009 x52010 x52011 x52012 x52013 x52014 x52015 x52016 x52017 x52018 x52019)) else (spec_l5Shown.j1 k true x51000 x51001 x51002 x51003 x51004 x51005 x51006 x51007 x51008 x51009 x51010 x51011 x51012 x51013 x51014 x51015 x51016 x51017 x51018 x51019 x52000 x52001 x52002 x52003 x52004 x52005 x52006 x52007 x52008 x52009 x52010 x52011 x52012 x52013 x52014 x52015 x52016 x52017 x52018 x52019))) else (spec_l5Shown.j1 k true x51000 x51001 x51002 x51003 x51004 x51005 x51006 x51007 x51008 x51009 x51010 x51011 x51012 x51013 x51014 x51015 x51016 x51017 x51018 x51019 x52000 x52001 x52002 x52003 x52004 x52005 x52006 x52007 x52008 x52009 x52010 x52011 x52012 x52013 x52014 x52015 x52016 x52017 x52018 x52019)) else (spec_l5Shown.j1 k true x51000 x51001 x51002 x51003 x51004 x51005 x51006 x51007 x51008 x51009 x51010 x51011 x51012 x51013 x51014 x51015 x51016 x51017 x51018 x51019 x52000 x52001 x52002 x52003 x52004 x52005 x52006 x52007 x52008 x52009 x52010 x52011 x52012 x52013 x52014 x52015 x52016 x52017 x52018 x52019))
def spec_l5Shown.j1 : Nat → Bool → Int → Int → List (S74) → List (S74) → Int → Int → Bool → Int → Int → Int → Bool → Bool → Bool → List Bool → Int → Int → Int → List Int → Int → Int → Int → Int → List (S74) → List (S74) → Int → Int → Bool → Int → Int → Int → Bool → Bool → Bool → List Bool → Int → Int → Int → List Int → Int → Int → Option (Bool)
 | 0, _, _, _, _, _, _, _, _, _, _, _, _, _, _, _, _, _, _, _, _, _, _, _, _, _, _, _, _, _, _, _, _, _, _, _, _, _, _, _, _, _ => none
 | k + 1, x106, x51000, x51001, x51002, x51003, x51004, x51005, x51006, x51007, x51008, x51009, x51010, x51011, x51012, x51013, x51014, x51015, x51016, x51017, x51018, x51019, x52000, x52001, x52002, x52003, x52004, x52005, x52006, x52007, x52008, x52009, x52010, x52011, x52012, x52013, x52014, x52015, x52016, x52017, x52018, x52019 => if x106 = true then (some false) else (if (x51010 != x52010) = true then (spec_l5Shown.j2 k true x51000 x51001 x51002 x51003 x51004 x51005 x51006 x51007 x51008 x51009 x51010 x51011 x51012 x51013 x51014 x51015 x51016 x51017 x51018 x51019 x52000 x52001 x52002 x52003 x52004 x52005 x52006 x52007 x52008 x52009 x52010 x52011 x52012 x52013 x52014 x52015 x52016 x52017 x52018 x52019) else (if (x51011 != x52011) = true then (spec_l5Shown.j2 k true x51000 x51001 x51002 x51003 x51004 x51005 x51006 x51007 x51008 x51009 x51010 x51011 x51012 x51013 x51014 x51015 x51016 x51017 x51018 x51019 x52000 x52001 x52002 x52003 x52004 x52005 x52006 x52007 x52008 x52009 x52010 x52011 x52012 x52013 x52014 x52015 x52016 x52017 x52018 x52019) else (if (x51012 != x52012) = true then (spec_l5Shown.j2 k true x51000 x51001 x51002 x51003 x51004 x51005 x51006 x51007 x51008 x51009 x51010 x51011 x51012 x51013 x51014 x51015 x51016 x51017 x51018 x51019 x52000 x52001 x52002 x52003 x52004 x52005 x52006 x52007 x52008 x52009 x52010 x52011 x52012 x52013 x52014 x52015 x52016 x52017 x52018 x52019) else (spec_l5Shown.j2 k (x51018 != x52018) x51000 x51001 x51002 x51003 x51004 x51005 x51006 x51007 x51008 x51009 x51010 x51011 x51012 x51013 x51014 x51015 x51016 x51017 x51018 x51019 x52000 x52001 x52002 x52003 x52004 x52005 x52006 x52007 x52008 x52009 x52010 x52011 x52012 x52013 x52014 x52015 x52016 x52017 x52018 x52019))))
def spec_l5Shown.j2 : Nat → Bool → Int → Int → List (S74) → List (S74) → Int → Int → Bool → Int → Int → Int → Bool → Bool → Bool → List Bool → Int → Int → Int → List Int → Int → Int → Int → Int → List (S74) → List (S74) → Int → Int → Bool → Int → Int → Int → Bool → Bool → Bool → List Bool → Int → Int → Int → List Int → Int → Int → Option (Bool)
 | 0, _, _, _, _, _, _, _, _, _, _, _, _, _, _, _, _, _, _, _, _, _, _, _, _, _, _, _, _, _, _, _, _, _, _, _, _, _, _, _, _, _ => none
 | k + 1, x148, x51000, x51001, x51002, x51003, x51004, x51005, x51006, x51007, x51008, x51009, x51010, x51011, x51012, x51013, x51014, x51015, x51016, x51017, x51018, x51019, x52000, x52001, x52002, x52003, x52004, x52005, x52006, x52007, x52008, x52009, x52010, x52011, x52012, x52013, x52014, x52015, x52016, x52017, x52018, x52019 => if x148 = true then (some false) else ((spec_l5Bools.f k x51013 x52013).bind fun t121 => (if t121 = true then ((spec_l4Ints.f k x51017 x52017).bind fun t122 => (some t122)) else (some false)))
end
def spec_l5Shown.f (k : Nat) (a0_0 : Int) (a0_1 : Int) (l0_2 : List (S74)) (l0_3 : List (S74)) (a0_4 : Int) (a0_5 : Int) (a0_6 : Bool) (a0_7 : Int) (a0_8 : Int) (a0_9 : Int) (a0_10 : Bool) (a0_11 : Bool) (a0_12 : Bool) (l0_13 : List Bool) (a0_14 : Int) (a0_15 : Int) (a0_16 : Int) (l0_17 : List Int) (a0_18 : Int) (a0_19 : Int) (a1_0 : Int) (a1_1 : Int) (l1_2 : List (S74)) (l1_3 : List (S74)) (a1_4 : Int) (a1_5 : Int) (a1_6 : Bool) (a1_7 : Int) (a1_8 : Int) (a1_9 : Int) (a1_10 : Bool) (a1_11 : Bool) (a1_12 : Bool) (l1_13 : List Bool) (a1_14 : Int) (a1_15 : Int) (a1_16 : Int) (l1_17 : List Int) (a1_18 : Int) (a1_19 : Int) : Option (Bool) := if a0_0 = a1_0 then (if a0_1 = a1_1 then ((spec_l3SameCells.f k l0_2 l1_2).bind fun t120 => (spec_l5Shown.j0 k (!t120) a0_0 a0_1 l0_2 l0_3 a0_4 a0_5 a0_6 a0_7 a0_8 a0_9 a0_10 a0_11 a0_12 l0_13 a0_14 a0_15 a0_16 l0_17 a0_18 a0_19 a1_0 a1_1 l1_2 l1_3 a1_4 a1_5 a1_6 a1_7 a1_8 a1_9 a1_10 a1_11 a1_12 l1_13 a1_14 a1_15 a1_16 l1_17 a1_18 a1_19)) else (spec_l5Shown.j0 k true a0_0 a0_1 l0_2 l0_3 a0_4 a0_5 a0_6 a0_7 a0_8 a0_9 a0_10 a0_11 a0_12 l0_13 a0_14 a0_15 a0_16 l0_17 a0_18 a0_19 a1_0 a1_1 l1_2 l1_3 a1_4 a1_5 a1_6 a1_7 a1_8 a1_9 a1_10 a1_11 a1_12 l1_13 a1_14 a1_15 a1_16 l1_17 a1_18 a1_19)) else (spec_l5Shown.j0 k true a0_0 a0_1 l0_2 l0_3 a0_4 a0_5 a0_6 a0_7 a0_8 a0_9 a0_10 a0_11 a0_12 l0_13 a0_14 a0_15 a0_16 l0_17 a0_18 a0_19 a1_0 a1_1 l1_2 l1_3 a1_4 a1_5 a1_6 a1_7 a1_8 a1_9 a1_10 a1_11 a1_12 l1_13 a1_14 a1_15 a1_16 l1_17 a1_18 a1_19)
theorem spec_l5Shown.mono_l : ∀ k, (∀ y0 y1 y2 y3 y4 y5 y6 y7 y8 y9 y10 y11 y12 y13 y14 y15 y16 y17 y18 y19 y20 y21 y22 y23 y24 y25 y26 y27 y28 y29 y30 y31 y32 y33 y34 y35 y36 y37 y38 y39 y40, LeO (spec_l5Shown.j0 k y0 y1 y2 y3 y4 y5 y6 y7 y8 y9 y10 y11 y12 y13 y14 y15 y16 y17 y18 y19 y20 y21 y22 y23 y24 y25 y26 y27 y28 y29 y30 y31 y32 y33 y34 y35 y36 y37 y38 y39 y40) (spec_l5Shown.j0 (k + 1) y0 y1 y2 y3 y4 y5 y6 y7 y8 y9 y10 y11 y12 y13 y14 y15 y16 y17 y18 y19 y20 y21 y22 y23 y24 y25 y26 y27 y28 y29 y30 y31 y32 y33 y34 y35 y36 y37 y38 y39 y40)) ∧ (∀ y0 y1 y2 y3 y4 y5 y6 y7 y8 y9 y10 y11 y12 y13 y14 y15 y16 y17 y18 y19 y20 y21 y22 y23 y24 y25 y26 y27 y28 y29 y30 y31 y32 y33 y34 y35 y36 y37 y38 y39 y40, LeO (spec_l5Shown.j1 k y0 y1 y2 y3 y4 y5 y6 y7 y8 y9 y10 y11 y12 y13 y14 y15 y16 y17 y18 y19 y20 y21 y22 y23 y24 y25 y26 y27 y28 y29 y30 y31 y32 y33 y34 y35 y36 y37 y38 y39 y40) (spec_l5Shown.j1 (k + 1) y0 y1 y2 y3 y4 y5 y6 y7 y8 y9 y10 y11 y12 y13 y14 y15 y16 y17 y18 y19 y20 y21 y22 y23 y24 y25 y26 y27 y28 y29 y30 y31 y32 y33 y34 y35 y36 y37 y38 y39 y40)) ∧ (∀ y0 y1 y2 y3 y4 y5 y6 y7 y8 y9 y10 y11 y12 y13 y14 y15 y16 y17 y18 y19 y20 y21 y22 y23 y24 y25 y26 y27 y28 y29 y30 y31 y32 y33 y34 y35 y36 y37 y38 y39 y40, LeO (spec_l5Shown.j2 k y0 y1 y2 y3 y4 y5 y6 y7 y8 y9 y10 y11 y12 y13 y14 y15 y16 y17 y18 y19 y20 y21 y22 y23 y24 y25 y26 y27 y28 y29 y30 y31 y32 y33 y34 y35 y36 y37 y38 y39 y40) (spec_l5Shown.j2 (k + 1) y0 y1 y2 y3 y4 y5 y6 y7 y8 y9 y10 y11 y12 y13 y14 y15 y16 y17 y18 y19 y20 y21 y22 y23 y24 y25 y26 y27 y28 y29 y30 y31 y32 y33 y34 y35 y36 y37 y38 y39 y40))
 | 0 => ⟨fun _ _ _ _ _ _ _ _ _ _ _ _ _ _ _ _ _ _ _ _ _ _ _ _ _ _ _ _ _ _ _ _ _ _ _ _ _ _ _ _ _ r h => by simp [spec_l5Shown.j0] at h, fun _ _ _ _ _ _ _ _ _ _ _ _ _ _ _ _ _ _ _ _ _ _ _ _ _ _ _ _ _ _ _ _ _ _ _ _ _ _ _ _ _ r h => by simp [spec_l5Shown.j1] at h, fun _ _ _ _ _ _ _ _ _ _ _ _ _ _ _ _ _ _ _ _ _ _ _ _ _ _ _ _ _ _ _ _ _ _ _ _ _ _ _ _ _ r h => by simp [spec_l5Shown.j2] at h⟩
 | k + 1 => by
  obtain ⟨ih0, ih1, ih2⟩ := spec_l5Shown.mono_l k
  refine ⟨?_, ?_, ?_⟩
  ·intro y0 y1 y2 y3 y4 y5 y6 y7 y8 y9 y10 y11 y12 y13 y14 y15 y16 y17 y18 y19 y20 y21 y22 y23 y24 y25 y26 y27 y28 y29 y30 y31 y32 y33 y34 y35 y36 y37 y38 y39 y40
   unfold spec_l5Shown.j0
   repeat' first
   | (with_reducible exact ih0 _ _ _ _ _ _ _ _ _ _ _ _ _ _ _ _ _ _ _ _ _ _ _ _ _ _ _ _ _ _ _ _ _ _ _ _ _ _ _ _ _)
   | (with_reducible exact ih1 _ _ _ _ _ _ _ _ _ _ _ _ _ _ _ _ _ _ _ _ _ _ _ _ _ _ _ _ _ _ _ _ _ _ _ _ _ _ _ _ _)
   | (with_reducible exact ih2 _ _ _ _ _ _ _ _ _ _ _ _ _ _ _ _ _ _ _ _ _ _ _ _ _ _ _ _ _ _ _ _ _ _ _ _ _ _ _ _ _)
   | (with_reducible exact spec_l3SameCells.mono _ _ _)
   | (with_reducible exact spec_l4Ints.mono _ _ _)
   | (with_reducible exact spec_l5Bools.mono _ _ _)
   | (with_reducible exact LeO.refl _)
   | (with_reducible exact LeO.none _)
   | (with_reducible refine LeO.ite ?_ ?_)
   | (with_reducible refine LeO.bind ?_ (fun _ => ?_))
   | exact ih0 _ _ _ _ _ _ _ _ _ _ _ _ _ _ _ _ _ _ _ _ _ _ _ _ _ _ _ _ _ _ _ _ _ _ _ _ _ _ _ _ _
   | exact ih1 _ _ _ _ _ _ _ _ _ _ _ _ _ _ _ _ _ _ _ _ _ _ _ _ _ _ _ _ _ _ _ _ _ _ _ _ _ _ _ _ _
   | exact ih2 _ _ _ _ _ _ _ _ _ _ _ _ _ _ _ _ _ _ _ _ _ _ _ _ _ _ _ _ _ _ _ _ _ _ _ _ _ _ _ _ _
   | exact spec_l3SameCells.mono _ _ _
   | exact spec_l4Ints.mono _ _ _
   | exact spec_l5Bools.mono _ _ _
   | exact LeO.none _
   | refine LeO.ite ?_ ?_
   | refine LeO.bind ?_ (fun _ => ?_)
  ·intro y0 y1 y2 y3 y4 y5 y6 y7 y8 y9 y10 y11 y12 y13 y14 y15 y16 y17 y18 y19 y20 y21 y22 y23 y24 y25 y26 y27 y28 y29 y30 y31 y32 y33 y34 y35 y36 y37 y38 y39 y40
   unfold spec_l5Shown.j1
   repeat' first
   | (with_reducible exact ih0 _ _ _ _ _ _ _ _ _ _ _ _ _ _ _ _ _ _ _ _ _ _ _ _ _ _ _ _ _ _ _ _ _ _ _ _ _ _ _ _ _)
   | (with_reducible exact ih1 _ _ _ _ _ _ _ _ _ _ _ _ _ _ _ _ _ _ _ _ _ _ _ _ _ _ _ _ _ _ _ _ _ _ _ _ _ _ _ _ _)
   | (with_reducible exact ih2 _ _ _ _ _ _ _ _ _ _ _ _ _ _ _ _ _ _ _ _ _ _ _ _ _ _ _ _ _ _ _ _ _ _ _ _ _ _ _ _ _)
   | (with_reducible exact spec_l3SameCells.mono _ _ _)
   | (with_reducible exact spec_l4Ints.mono _ _ _)
   | (with_reducible exact spec_l5Bools.mono _ _ _)
   | (with_reducible exact LeO.refl _)
   | (with_reducible exact LeO.none _)
   | (with_reducible refine LeO.ite ?_ ?_)
   | (with_reducible refine LeO.bind ?_ (fun _ => ?_))
   | exact ih0 _ _ _ _ _ _ _ _ _ _ _ _ _ _ _ _ _ _ _ _ _ _ _ _ _ _ _ _ _ _ _ _ _ _ _ _ _ _ _ _ _
   | exact ih1 _ _ _ _ _ _ _ _ _ _ _ _ _ _ _ _ _ _ _ _ _ _ _ _ _ _ _ _ _ _ _ _ _ _ _ _ _ _ _ _ _
   | exact ih2 _ _ _ _ _ _ _ _ _ _ _ _ _ _ _ _ _ _ _ _ _ _ _ _ _ _ _ _ _ _ _ _ _ _ _ _ _ _ _ _ _
   | exact spec_l3SameCells.mono _ _ _
   | exact spec_l4Ints.mono _ _ _
   | exact spec_l5Bools.mono _ _ _
   | exact LeO.none _
   | refine LeO.ite ?_ ?_
   | refine LeO.bind ?_ (fun _ => ?_)
  ·intro y0 y1 y2 y3 y4 y5 y6 y7 y8 y9 y10 y11 y12 y13 y14 y15 y16 y17 y18 y19 y20 y21 y22 y23 y24 y25 y26 y27 y28 y29 y30 y31 y32 y33 y34 y35 y36 y37 y38 y39 y40
   unfold spec_l5Shown.j2
   repeat' first
   | (with_reducible exact ih0 _ _ _ _ _ _ _ _ _ _ _ _ _ _ _ _ _ _ _ _ _ _ _ _ _ _ _ _ _ _ _ _ _ _ _ _ _ _ _ _ _)
   | (with_reducible exact ih1 _ _ _ _ _ _ _ _ _ _ _ _ _ _ _ _ _ _ _ _ _ _ _ _ _ _ _ _ _ _ _ _ _ _ _ _ _ _ _ _ _)
   | (with_reducible exact ih2 _ _ _ _ _ _ _ _ _ _ _ _ _ _ _ _ _ _ _ _ _ _ _ _ _ _ _ _ _ _ _ _ _ _ _ _ _ _ _ _ _)
   | (with_reducible exact spec_l3SameCells.mono _ _ _)
   | (with_reducible exact spec_l4Ints.mono _ _ _)
   | (with_reducible exact spec_l5Bools.mono _ _ _)
   | (with_reducible exact LeO.refl _)
   | (with_reducible exact LeO.none _)
   | (with_reducible refine LeO.ite ?_ ?_)
   | (with_reducible refine LeO.bind ?_ (fun _ => ?_))
   | exact ih0 _ _ _ _ _ _ _ _ _ _ _ _ _ _ _ _ _ _ _ _ _ _ _ _ _ _ _ _ _ _ _ _ _ _ _ _ _ _ _ _ _
   | exact ih1 _ _ _ _ _ _ _ _ _ _ _ _ _ _ _ _ _ _ _ _ _ _ _ _ _ _ _ _ _ _ _ _ _ _ _ _ _ _ _ _ _
   | exact ih2 _ _ _ _ _ _ _ _ _ _ _ _ _ _ _ _ _ _ _ _ _ _ _ _ _ _ _ _ _ _ _ _ _ _ _ _ _ _ _ _ _
   | exact spec_l3SameCells.mono _ _ _
   | exact spec_l4Ints.mono _ _ _
   | exact spec_l5Bools.mono _ _ _
   | exact LeO.none _
   | refine LeO.ite ?_ ?_
   | refine LeO.bind ?_ (fun _ => ?_)
theorem spec_l5Shown.mono : ∀ a0 a1 a2 a3 a4 a5 a6 a7 a8 a9 a10 a11 a12 a13 a14 a15 a16 a17 a18 a19 a20 a21 a22 a23 a24 a25 a26 a27 a28 a29 a30 a31 a32 a33 a34 a35 a36 a37 a38 a39 k, LeO (spec_l5Shown.f k a0 a1 a2 a3 a4 a5 a6 a7 a8 a9 a10 a11 a12 a13 a14 a15 a16 a17 a18 a19 a20 a21 a22 a23 a24 a25 a26 a27 a28 a29 a30 a31 a32 a33 a34 a35 a36 a37 a38 a39) (spec_l5Shown.f (k + 1) a0 a1 a2 a3 a4 a5 a6 a7 a8 a9 a10 a11 a12 a13 a14 a15 a16 a17 a18 a19 a20 a21 a22 a23 a24 a25 a26 a27 a28 a29 a30 a31 a32 a33 a34 a35 a36 a37 a38 a39) := by
 intro a0 a1 a2 a3 a4 a5 a6 a7 a8 a9 a10 a11 a12 a13 a14 a15 a16 a17 a18 a19 a20 a21 a22 a23 a24 a25 a26 a27 a28 a29 a30 a31 a32 a33 a34 a35 a36 a37 a38 a39 k
 obtain ⟨ih0, ih1, ih2⟩ := spec_l5Shown.mono_l k
 unfold spec_l5Shown.f
 repeat' first
   | (with_reducible exact ih0 _ _ _ _ _ _ _ _ _ _ _ _ _ _ _ _ _ _ _ _ _ _ _ _ _ _ _ _ _ _ _ _ _ _ _ _ _ _ _ _ _)
   | (with_reducible exact ih1 _ _ _ _ _ _ _ _ _ _ _ _ _ _ _ _ _ _ _ _ _ _ _ _ _ _ _ _ _ _ _ _ _ _ _ _ _ _ _ _ _)
   | (with_reducible exact ih2 _ _ _ _ _ _ _ _ _ _ _ _ _ _ _ _ _ _ _ _ _ _ _ _ _ _ _ _ _ _ _ _ _ _ _ _ _ _ _ _ _)
   | (with_reducible exact spec_l3SameCells.mono _ _ _)
   | (with_reducible exact spec_l4Ints.mono _ _ _)
   | (with_reducible exact spec_l5Bools.mono _ _ _)
   | (with_reducible exact LeO.refl _)
   | (with_reducible exact LeO.none _)
   | (with_reducible refine LeO.ite ?_ ?_)
   | (with_reducible refine LeO.bind ?_ (fun _ => ?_))
   | exact ih0 _ _ _ _ _ _ _ _ _ _ _ _ _ _ _ _ _ _ _ _ _ _ _ _ _ _ _ _ _ _ _ _ _ _ _ _ _ _ _ _ _
   | exact ih1 _ _ _ _ _ _ _ _ _ _ _ _ _ _ _ _ _ _ _ _ _ _ _ _ _ _ _ _ _ _ _ _ _ _ _ _ _ _ _ _ _
   | exact ih2 _ _ _ _ _ _ _ _ _ _ _ _ _ _ _ _ _ _ _ _ _ _ _ _ _ _ _ _ _ _ _ _ _ _ _ _ _ _ _ _ _
   | exact spec_l3SameCells.mono _ _ _
   | exact spec_l4Ints.mono _ _ _
   | exact spec_l5Bools.mono _ _ _
   | exact LeO.none _
   | refine LeO.ite ?_ ?_
   | refine LeO.bind ?_ (fun _ => ?_)
def spec_l5Shown.T1 : Bool × List (List Nat × List Nat) := (true, [([], []), ([0], [0]), ([1], [1]), ([2], [2]), ([3], [3]), ([], []), ([5], [5]), ([6], [6]), ([7], [7]), ([8], [8]), ([4, 9], [4, 9]), ([10], [10]), ([11], [11]), ([12, 11], [11, 12]), ([13, 11], [11, 13]), ([14, 11], [11, 14]), ([15, 11], [11, 15]), ([11], [11]), ([17, 11], [11, 17]), ([18, 11], [11, 18]), ([19, 11], [11, 19]), ([20, 11], [11, 20]), ([16, 21, 11], [11, 16, 21]), ([11, 22], [11, 22]), ([23, 11], [23]), ([24], [24]), ([25, 24], [24, 25]), ([26, 24], [24, 26]), ([27, 24], [24, 27]), ([28, 24], [24, 28]), ([24], [24]), ([30, 24], [24, 30]), ([31, 24], [24, 31]), ([32, 24], [24, 32]), ([33, 24], [24, 33]), ([29, 34, 24, 24], [24, 29, 34]), ([35, 24], [24, 35]), ([24, 36], [24, 36])])
def spec_l5Shown.B1 : List Nat := [0, 1, 3, 7, 15, 0, 32, 96, 224, 480, 1023, 2047, 4095, 8191, 16383, 32767, 65535, 4095, 135167, 397311, 921599, 1970175, 4194303, 8388607, 16777215, 33554431, 67108863, 134217727, 268435455, 536870911, 33554431, 1107296255, 3254779903, 7549747199, 16139681791, 34359738367, 68719476735, 137438953471]
theorem spec_l5Shown.tab1 : rtab .any (opsOf Try.f24 1) = spec_l5Shown.T1 := by kernel_rfl
theorem spec_l5Shown.bits1 : waitsOk spec_l5Shown.T1.2 spec_l5Shown.B1 = true := by kernel_rfl
def spec_l5Shown.T3 : Bool × List (List Nat × List Nat) := (true, [([], []), ([0], [0]), ([1], [1]), ([2], [2]), ([], []), ([4], [4]), ([5], [5]), ([6], [6]), ([3, 7], [3, 7]), ([8], [8]), ([9], [9]), ([10, 9], [9, 10]), ([11, 9], [9, 11]), ([12, 9], [9, 12]), ([9], [9]), ([14, 9], [9, 14]), ([15, 9], [9, 15]), ([16, 9], [9, 16]), ([13, 17, 9], [9, 13, 17]), ([9, 18], [9, 18]), ([19, 9], [19]), ([20], [20]), ([21, 20], [20, 21]), ([22, 20], [20, 22]), ([23, 20], [20, 23]), ([20], [20]), ([25, 20], [20, 25]), ([26, 20], [20, 26]), ([27, 20], [20, 27]), ([24, 28, 20], [20, 24, 28]), ([20, 29], [20, 29]), ([30, 20], [30]), ([31], [31]), ([32, 31], [31, 32]), ([33, 31], [31, 33]), ([34, 31], [31, 34]), ([31], [31]), ([36, 31], [31, 36]), ([37, 31], [31, 37]), ([38, 31], [31, 38]), ([35, 39, 31], [31, 35, 39]), ([31, 40], [31, 40]), ([41, 31], [41]), ([42], [42]), ([43, 42], [42, 43]), ([44, 42], [42, 44]), ([45, 42], [42, 45]), ([42], [42]), ([47, 42], [42, 47]), ([48, 42], [42, 48]), ([49, 42], [42, 49]), ([46, 50, 42], [42, 46, 50]), ([42, 51], [42, 51]), ([52, 42], [52]), ([53], [53]), ([54, 53], [53, 54]), ([55, 53], [53, 55]), ([56, 53], [53, 56]), ([53], [53]), ([58, 53], [53, 58]), ([59, 53], [53, 59]), ([60, 53], [53, 60]), ([57, 61, 53], [53, 57, 61]), ([53, 62], [53, 62])])
def spec_l5Shown.B3 : List Nat := [0, 1, 3, 7, 0, 16, 48, 112, 255, 511, 1023, 2047, 4095, 8191, 1023, 17407, 50175, 115711, 262143, 524287, 1048575, 2097151, 4194303, 8388607, 16777215, 2097151, 35651583, 102760447, 236978175, 536870911, 1073741823, 2147483647, 4294967295, 8589934591, 17179869183, 34359738367, 4294967295, 73014444031, 210453397503, 485331304447, 1099511627775, 2199023255551, 4398046511103, 8796093022207, 17592186044415, 35184372088831, 70368744177663, 8796093022207, 149533581377535, 431008558088191, 993958511509503, 2251799813685247, 4503599627370495, 9007199254740991, 18014398509481983, 36028797018963967, 72057594037927935, 144115188075855871, 18014398509481983, 306244774661193727, 882705526964617215, 2035627031571464191, 4611686018427387903, 9223372036854775807]
theorem spec_l5Shown.tab3 : rtab .any (opsOf Try.f24 3) = spec_l5Shown.T3 := by kernel_rfl
theorem spec_l5Shown.bits3 : waitsOk spec_l5Shown.T3.2 spec_l5Shown.B3 = true := by kernel_rfl
def spec_l5Shown.T5 : Bool × List (List Nat × List Nat) := (true, [([], []), ([0], [0]), ([1], [1]), ([2], [2]), ([], []), ([4], [4]), ([5], [5]), ([6], [6]), ([3, 7], [3, 7]), ([8], [8]), ([9], [9]), ([10, 9], [9, 10]), ([11, 9], [9, 11]), ([12, 9], [9, 12]), ([9], [9]), ([14, 9], [9, 14]), ([15, 9], [9, 15]), ([16, 9], [9, 16]), ([13, 17, 9], [9, 13, 17]), ([9, 18], [9, 18]), ([19, 9], [19]), ([20], [20]), ([21, 20], [20, 21]), ([22, 20], [20, 22]), ([23, 20], [20, 23]), ([20], [20]), ([25, 20], [20, 25]), ([26, 20], [20, 26]), ([27, 20], [20, 27]), ([24, 28, 20], [20, 24, 28]), ([20, 29], [20, 29]), ([30, 20], [30]), ([31], [31]), ([32, 31], [31, 32]), ([33, 31], [31, 33]), ([34, 31], [31, 34]), ([31], [31]), ([36, 31], [31, 36]), ([37, 31], [31, 37]), ([38, 31], [31, 38]), ([35, 39, 31], [31, 35, 39]), ([31, 40], [31, 40])])
def spec_l5Shown.B5 : List Nat := [0, 1, 3, 7, 0, 16, 48, 112, 255, 511, 1023, 2047, 4095, 8191, 1023, 17407, 50175, 115711, 262143, 524287, 1048575, 2097151, 4194303, 8388607, 16777215, 2097151, 35651583, 102760447, 236978175, 536870911, 1073741823, 2147483647, 4294967295, 8589934591, 17179869183, 34359738367, 4294967295, 73014444031, 210453397503, 485331304447, 1099511627775, 2199023255551]
theorem spec_l5Shown.tab5 : rtab .any (opsOf Try.f24 5) = spec_l5Shown.T5 := by kernel_rfl
theorem spec_l5Shown.bits5 : waitsOk spec_l5Shown.T5.2 spec_l5Shown.B5 = true := by kernel_rfl
def spec_l5Shown.T7 : Bool × List (List Nat × List Nat) := (true, [([], []), ([0], [0]), ([1], [1]), ([2], [2]), ([], []), ([4], [4]), ([5], [5]), ([6], [6]), ([3, 7], [3, 7]), ([8, 8], [8]), ([9], [9]), ([10, 9], [9, 10]), ([11, 9], [9, 11]), ([12, 9], [9, 12]), ([9], [9]), ([14, 9], [9, 14]), ([15, 9], [9, 15]), ([16, 9], [9, 16]), ([13, 17, 9, 9], [9, 13, 17]), ([9, 18], [9, 18]), ([19, 18, 0, 1, 2, 3, 4, 5, 6, 7, 8, 9, 10, 11, 12, 13, 14, 15, 16, 17, 18, 19], [19])])
def spec_l5Shown.B7 : List Nat := [0, 1, 3, 7, 0, 16, 48, 112, 255, 511, 1023, 2047, 4095, 8191, 1023, 17407, 50175, 115711, 262143, 524287, 1048575]
theorem spec_l5Shown.tab7 : rtab .any (opsOf Try.f24 7) = spec_l5Shown.T7 := by kernel_rfl
theorem spec_l5Shown.bits7 : waitsOk spec_l5Shown.T7.2 spec_l5Shown.B7 = true := by kernel_rfl
set_option maxHeartbeats 8000000 in
set_option maxRecDepth 100000 in
theorem spec_l5Shown.calls (k : Nat) (gp0 : Nat) (P0_0 P0_1 P0_2 P0_3 P0_4 P0_5 P0_6 : Value) (a0_0 : Int) (a0_1 : Int) (A0_2 : Option Addr) (c0_2 : Nat) (l0_2 : List (S74)) (A0_3 : Option Addr) (c0_3 : Nat) (l0_3 : List (S74)) (a0_4 : Int) (a0_5 : Int) (a0_6 : Bool) (a0_7 : Int) (a0_8 : Int) (a0_9 : Int) (a0_10 : Bool) (a0_11 : Bool) (a0_12 : Bool) (A0_13 : Option Addr) (c0_13 : Nat) (l0_13 : List Bool) (a0_14 : Int) (a0_15 : Int) (a0_16 : Int) (A0_17 : Option Addr) (c0_17 : Nat) (l0_17 : List Int) (a0_18 : Int) (a0_19 : Int) (gp1 : Nat) (P1_0 P1_1 P1_2 P1_3 P1_4 P1_5 P1_6 : Value) (a1_0 : Int) (a1_1 : Int) (A1_2 : Option Addr) (c1_2 : Nat) (l1_2 : List (S74)) (A1_3 : Option Addr) (c1_3 : Nat) (l1_3 : List (S74)) (a1_4 : Int) (a1_5 : Int) (a1_6 : Bool) (a1_7 : Int) (a1_8 : Int) (a1_9 : Int) (a1_10 : Bool) (a1_11 : Bool) (a1_12 : Bool) (A1_13 : Option Addr) (c1_13 : Nat) (l1_13 : List Bool) (a1_14 : Int) (a1_15 : Int) (a1_16 : Int) (A1_17 : Option Addr) (c1_17 : Nat) (l1_17 : List Int) (a1_18 : Int) (a1_19 : Int) (r : Bool) (w : World) (hp0 : w.heap[gp0]? = some (.cells #[P0_0, P0_1, P0_2, P0_3, P0_4, P0_5, P0_6, .int .i64 a0_0, .int .i64 a0_1, .slice A0_2 l0_2.length c0_2, .slice A0_3 l0_3.length c0_3, .int .i64 a0_4, .int .i64 a0_5, .bool a0_6, .int .i64 a0_7, .int .i64 a0_8, .int .i64 a0_9, .bool a0_10, .bool a0_11, .bool a0_12, .slice A0_13 l0_13.length c0_13, .int .i64 a0_14, .int .i64 a0_15, .int .i64 a0_16, .slice A0_17 l0_17.length c0_17, .int .i64 a0_18, .int .i64 a0_19] 45 (0, 0))) (hr0_2 : Kd.C k74 w A0_2 l0_2.length l0_2) (hc0_2 : l0_2.length ≤ c0_2) (hr0_3 : Kd.C k74 w A0_3 l0_3.length l0_3) (hc0_3 : l0_3.length ≤ c0_3) (hr0_13 : Kd.C Kd.bool w A0_13 l0_13.length l0_13) (hc0_13 : l0_13.length ≤ c0_13) (hr0_17 : Kd.C (Kd.int .i64) w A0_17 l0_17.length l0_17) (hc0_17 : l0_17.length ≤ c0_17) (hp1 : w.heap[gp1]? = some (.cells #[P1_0, P1_1, P1_2, P1_3, P1_4, P1_5, P1_6, .int .i64 a1_0, .int .i64 a1_1, .slice A1_2 l1_2.length c1_2, .slice A1_3 l1_3.length c1_3, .int .i64 a1_4, .int .i64 a1_5, .bool a1_6, .int .i64 a1_7, .int .i64 a1_8, .int .i64 a1_9, .bool a1_10, .bool a1_11, .bool a1_12, .slice A1_13 l1_13.length c1_13, .int .i64 a1_14, .int .i64 a1_15, .int .i64 a1_16, .slice A1_17 l1_17.length c1_17, .int .i64 a1_18, .int .i64 a1_19] 45 (0, 0))) (hr1_2 : Kd.C k74 w A1_2 l1_2.length l1_2) (hc1_2 : l1_2.length ≤ c1_2) (hr1_3 : Kd.C k74 w A1_3 l1_3.length l1_3) (hc1_3 : l1_3.length ≤ c1_3) (hr1_13 : Kd.C Kd.bool w A1_13 l1_13.length l1_13) (hc1_13 : l1_13.length ≤ c1_13) (hr1_17 : Kd.C (Kd.int .i64) w A1_17 l1_17.length l1_17) (hc1_17 : l1_17.length ≤ c1_17) (h : spec_l5Shown.f k a0_0 a0_1 l0_2 l0_3 a0_4 a0_5 a0_6 a0_7 a0_8 a0_9 a0_10 a0_11 a0_12 l0_13 a0_14 a0_15 a0_16 l0_17 a0_18 a0_19 a1_0 a1_1 l1_2 l1_3 a1_4 a1_5 a1_6 a1_7 a1_8 a1_9 a1_10 a1_11 a1_12 l1_13 a1_14 a1_15 a1_16 l1_17 a1_18 a1_19 = some r) :
  Calls Try.prog 24 #[.pointer (some ⟨gp0, 7, none⟩), .pointer (some ⟨gp1, 7, none⟩)] w fun e w' => e = .returned (.bool r) ∧ Below w.heap.size w w' := by
 have HR0_2 := Aside0.mk hr0_2
 have HC0_2 := Aside0.mk hc0_2
 clear hr0_2 hc0_2
 have HR0_3 := Aside0.mk hr0_3
 have HC0_3 := Aside0.mk hc0_3
 clear hr0_3 hc0_3
 have HR0_13 := Aside0.mk hr0_13
 have HC0_13 := Aside0.mk hc0_13
 clear hr0_13 hc0_13
 have HR0_17 := Aside0.mk hr0_17
 have HC0_17 := Aside0.mk hc0_17
 clear hr0_17 hc0_17
 have HR1_2 := Aside0.mk hr1_2
 have HC1_2 := Aside0.mk hc1_2
 clear hr1_2 hc1_2
 have HR1_3 := Aside0.mk hr1_3
 have HC1_3 := Aside0.mk hc1_3
 clear hr1_3 hc1_3
 have HR1_13 := Aside0.mk hr1_13
 have HC1_13 := Aside0.mk hc1_13
 clear hr1_13 hc1_13
 have HR1_17 := Aside0.mk hr1_17
 have HC1_17 := Aside0.mk hc1_17
 clear hr1_17 hc1_17
 have BK50 := Aside0.mk hp0
 clear hp0
 have BK51 := Aside0.mk hp1
 clear hp1
 have HB := Aside0.mk (Below.refl w.heap.size w)
 have H : (if a0_0 = a1_0 then (if a0_1 = a1_1 then ((spec_l3SameCells.f k l0_2 l1_2).bind fun t120 => (spec_l5Shown.j0 k (!t120) a0_0 a0_1 l0_2 l0_3 a0_4 a0_5 a0_6 a0_7 a0_8 a0_9 a0_10 a0_11 a0_12 l0_13 a0_14 a0_15 a0_16 l0_17 a0_18 a0_19 a1_0 a1_1 l1_2 l1_3 a1_4 a1_5 a1_6 a1_7 a1_8 a1_9 a1_10 a1_11 a1_12 l1_13 a1_14 a1_15 a1_16 l1_17 a1_18 a1_19)) else (spec_l5Shown.j0 k true a0_0 a0_1 l0_2 l0_3 a0_4 a0_5 a0_6 a0_7 a0_8 a0_9 a0_10 a0_11 a0_12 l0_13 a0_14 a0_15 a0_16 l0_17 a0_18 a0_19 a1_0 a1_1 l1_2 l1_3 a1_4 a1_5 a1_6 a1_7 a1_8 a1_9 a1_10 a1_11 a1_12 l1_13 a1_14 a1_15 a1_16 l1_17 a1_18 a1_19)) else (spec_l5Shown.j0 k true a0_0 a0_1 l0_2 l0_3 a0_4 a0_5 a0_6 a0_7 a0_8 a0_9 a0_10 a0_11 a0_12 l0_13 a0_14 a0_15 a0_16 l0_17 a0_18 a0_19 a1_0 a1_1 l1_2 l1_3 a1_4 a1_5 a1_6 a1_7 a1_8 a1_9 a1_10 a1_11 a1_12 l1_13 a1_14 a1_15 a1_16 l1_17 a1_18 a1_19)) = some r := h
 clear h
 have HC3 := Aside0.mk H
 clear H
 go_enter Try.func24, Try.ntmps24
 go_upto_region 1 with (fail)
 go_cut [42] (fun v42 wc => ∃ (kq : Nat) (x42_2 : Bool), v42 = .bool x42_2 ∧ Aside0 (spec_l5Shown.j0 kq x42_2 a0_0 a0_1 l0_2 l0_3 a0_4 a0_5 a0_6 a0_7 a0_8 a0_9 a0_10 a0_11 a0_12 l0_13 a0_14 a0_15 a0_16 l0_17 a0_18 a0_19 a1_0 a1_1 l1_2 l1_3 a1_4 a1_5 a1_6 a1_7 a1_8 a1_9 a1_10 a1_11 a1_12 l1_13 a1_14 a1_15 a1_16 l1_17 a1_18 a1_19 = some r) ∧ Aside0 (kq ≤ k) ∧ Aside0 (wc.heap[gp0]? = some (.cells #[P0_0, P0_1, P0_2, P0_3, P0_4, P0_5, P0_6, .int .i64 a0_0, .int .i64 a0_1, .slice A0_2 l0_2.length c0_2, .slice A0_3 l0_3.length c0_3, .int .i64 a0_4, .int .i64 a0_5, .bool a0_6, .int .i64 a0_7, .int .i64 a0_8, .int .i64 a0_9, .bool a0_10, .bool a0_11, .bool a0_12, .slice A0_13 l0_13.length c0_13, .int .i64 a0_14, .int .i64 a0_15, .int .i64 a0_16, .slice A0_17 l0_17.length c0_17, .int .i64 a0_18, .int .i64 a0_19] 45 (0, 0))) ∧ Aside0 (wc.heap[gp1]? = some (.cells #[P1_0, P1_1, P1_2, P1_3, P1_4, P1_5, P1_6, .int .i64 a1_0, .int .i64 a1_1, .slice A1_2 l1_2.length c1_2, .slice A1_3 l1_3.length c1_3, .int .i64 a1_4, .int .i64 a1_5, .bool a1_6, .int .i64 a1_7, .int .i64 a1_8, .int .i64 a1_9, .bool a1_10, .bool a1_11, .bool a1_12, .slice A1_13 l1_13.length c1_13, .int .i64 a1_14, .int .i64 a1_15, .int .i64 a1_16, .slice A1_17 l1_17.length c1_17, .int .i64 a1_18, .int .i64 a1_19] 45 (0, 0))) ∧ Aside0 (Below w.heap.size w wc))
 case first =>
  have H := HC3.out
  clear HC3
  by_cases c4 : a0_0 = a1_0
  ·rw [if_pos c4] at H
   have c4b0 : (a0_0 == a1_0) = true := beq_iff_eq.mpr c4
   have c4b1 : (a0_0 != a1_0) = false := bne_eq_false_iff_eq.mpr c4
   clear c4
   (first | rw [c4b0] | (simp only [i64_w, i32_w]; rw [c4b0]) | skip)
   by_cases c5 : a0_1 = a1_1
   ·rw [if_pos c5] at H
    have c5b0 : (a0_1 == a1_1) = true := beq_iff_eq.mpr c5
    have c5b1 : (a0_1 != a1_1) = false := bne_eq_false_iff_eq.mpr c5
    clear c5
    replace H := Option.bind_eq_some_iff.mp H
    obtain ⟨t120, A60, H⟩ := H
    replace H : (spec_l5Shown.j0 k (!t120) a0_0 a0_1 l0_2 l0_3 a0_4 a0_5 a0_6 a0_7 a0_8 a0_9 a0_10 a0_11 a0_12 l0_13 a0_14 a0_15 a0_16 l0_17 a0_18 a0_19 a1_0 a1_1 l1_2 l1_3 a1_4 a1_5 a1_6 a1_7 a1_8 a1_9 a1_10 a1_11 a1_12 l1_13 a1_14 a1_15 a1_16 l1_17 a1_18 a1_19) = some r := H
    have A6 := Aside0.mk A60
    clear A60
    have H' := Aside0.mk H
    clear H
    try go_wp2
    have n0_ := Aside0.mk (blk_drew BK50.out)
    have n1_ := Aside0.mk (blk_drew BK51.out)
    have n2_ := Aside0.mk (below_drew1 HB.out)
    clear BK50
    clear BK51
    clear HB
    have BK50 := n0_
    have BK51 := n1_
    have HB := n2_
    clear n0_ n1_ n2_
    as_aux_lemma =>
    refine st2 BK50.out BK51.out (bA 38 0) (by kernel_rfl) rfl rfl (fun hHeld => ?_); refine with_tabW spec_l5Shown.tab1 spec_l5Shown.bits1 (fun HT_ HW_ => ?_)
    generalize w.drew = w7 at BK50 BK51 HB hHeld ⊢
    refine pu 0 5 (bA 38 1) HT_ ?_
    refine pu 1 6 (bA 38 3) HT_ ?_
    refine pu 2 7 (bA 38 7) HT_ ?_
    refine pu 3 8 (bA 38 15) HT_ ?_
    refine pu 5 10 (bA 38 47) HT_ ?_
    refine pu 6 11 (bA 38 111) HT_ ?_
    refine pu 7 12 (bA 38 239) HT_ ?_
    refine pu 8 13 (bA 38 495) HT_ ?_
    refine tb 4 9 (bA 38 511) HT_ HW_ hHeld ?_
    refine tb 9 14 (bA 38 1023) HT_ HW_ hHeld ?_
    refine pu 10 15 (bA 38 2047) HT_ ?_
    refine pu 11 16 (bA 38 4095) HT_ ?_
    refine pu 12 17 (bA 38 8191) HT_ ?_
    refine pu 13 18 (bA 38 16383) HT_ ?_
    refine pu 14 19 (bA 38 32767) HT_ ?_
    refine pu 15 20 (bA 38 65535) HT_ ?_
    refine pu 17 22 (bA 38 196607) HT_ ?_
    refine pu 18 23 (bA 38 458751) HT_ ?_
    refine pu 19 24 (bA 38 983039) HT_ ?_
    refine pu 20 25 (bA 38 2031615) HT_ ?_
    refine tb 16 21 (bA 38 2097151) HT_ HW_ hHeld ?_
    refine tb 21 26 (bA 38 4194303) HT_ HW_ hHeld ?_
    refine pu 22 27 (bA 38 8388607) HT_ ?_
    refine pu 23 28 (bA 38 16777215) HT_ ?_
    refine pu 24 29 (bA 38 33554431) HT_ ?_
    refine pu 25 30 (bA 38 67108863) HT_ ?_
    refine pu 26 31 (bA 38 134217727) HT_ ?_
    refine pu 27 32 (bA 38 268435455) HT_ ?_
    refine pu 28 33 (bA 38 536870911) HT_ ?_
    refine pu 30 35 (bA 38 1610612735) HT_ ?_
    refine pu 31 36 (bA 38 3758096383) HT_ ?_
    refine pu 32 37 (bA 38 8053063679) HT_ ?_
    refine pu 33 38 (bA 38 16642998271) HT_ ?_
    refine tb 29 34 (bA 38 17179869183) HT_ HW_ hHeld ?_
    refine tb 34 39 (bA 38 34359738367) HT_ HW_ hHeld ?_
    refine one_ (i := 35) (N := some 40) (bA 38 68719476735) rfl rfl (one_of HT_.out (by kernel_rfl)) (by decide) (fun K hK => ?_)
    refine goes_ Try.func25 (by kernel_rfl) rfl #[.slice A0_2 l0_2.length c0_2, .slice A1_2 l1_2.length c1_2] (by rfl) rfl rfl (by (try simp only [List.map_toArray, List.map_cons, List.map_nil]); first | done | rfl | (simp only [List.length_drop, List.length_take]; rfl)) ?_
    with_reducible refine (spec_l3SameCells.calls k _ _ l0_2 _ _ l1_2 t120 _ ?side1 ?side2 ?side3 ?side4 A6.out).mono ?_
    (case side1 => exact kc HR0_2.out HB.out)
    (case side2 => exact HC0_2.out)
    (case side3 => exact kc HR1_2.out HB.out)
    (case side4 => exact HC1_2.out)
    rintro e w' ⟨rfl, ⟨nd, rfl⟩⟩
    refine ⟨_, rfl, ?_⟩
    refine hK.out _ _ ⟨BK50.out, BK51.out⟩ (fun hHeld => ?_)
    clear hK K
    refine norm_ (a' := ?_) ?_ ?_
    rotate_left
    ·show Act.put _ (some 40) _ = _
     simp only [Act.put, List.setIfInBounds_toArray, List.set_cons_zero, List.set_cons_succ, i64_w, i32_w]
     rfl
    refine pu 36 41 (bA 38 137438953471) HT_ ?_
    refine pu 37 42 (bA 38 274877906943) HT_ ?_
    refine done_ (done_of HT_.out (by kernel_rfl)) ?_
    try go_wp2
    go_meet
    case rel => exact ⟨_, (!t120), (by first | rfl | (simp; done) | (simp [*]; done)), H', ⟨by first | omega | exact Nat.le_refl _⟩, ⟨pl BK50.out⟩, ⟨pl BK51.out⟩, ⟨be HB.out⟩⟩
   ·rw [if_neg c5] at H
    have c5b0 : (a0_1 == a1_1) = false := beq_eq_false_iff_ne.mpr c5
    have c5b1 : (a0_1 != a1_1) = true := bne_iff_ne.mpr c5
    have H' := Aside0.mk H
    clear H
    try go_wp2
    have n0_ := Aside0.mk (blk_drew BK50.out)
    have n1_ := Aside0.mk (blk_drew BK51.out)
    have n2_ := Aside0.mk (below_drew1 HB.out)
    clear BK50
    clear BK51
    clear HB
    have BK50 := n0_
    have BK51 := n1_
    have HB := n2_
    clear n0_ n1_ n2_
    as_aux_lemma =>
    refine st2 BK50.out BK51.out (bA 38 0) (by kernel_rfl) rfl rfl (fun hHeld => ?_); refine with_tabW spec_l5Shown.tab1 spec_l5Shown.bits1 (fun HT_ HW_ => ?_)
    generalize w.drew = w8 at BK50 BK51 HB hHeld ⊢
    refine pu 0 5 (bA 38 1) HT_ ?_
    refine pu 1 6 (bA 38 3) HT_ ?_
    refine pu 2 7 (bA 38 7) HT_ ?_
    refine pu 3 8 (bA 38 15) HT_ ?_
    refine pu 5 10 (bA 38 47) HT_ ?_
    refine pu 6 11 (bA 38 111) HT_ ?_
    refine pu 7 12 (bA 38 239) HT_ ?_
    refine pu 8 13 (bA 38 495) HT_ ?_
    refine tb 4 9 (bA 38 511) HT_ HW_ hHeld ?_
    refine tb 9 14 (bA 38 1023) HT_ HW_ hHeld ?_
    refine pu 10 15 (bA 38 2047) HT_ ?_
    refine pu 11 16 (bA 38 4095) HT_ ?_
    refine pu 12 17 (bA 38 8191) HT_ ?_
    refine pu 13 18 (bA 38 16383) HT_ ?_
    refine pu 14 19 (bA 38 32767) HT_ ?_
    refine pu 15 20 (bA 38 65535) HT_ ?_
    refine pu 17 22 (bA 38 196607) HT_ ?_
    refine pu 18 23 (bA 38 458751) HT_ ?_
    refine pu 19 24 (bA 38 983039) HT_ ?_
    refine pu 20 25 (bA 38 2031615) HT_ ?_
    refine tb 16 21 (bA 38 2097151) HT_ HW_ hHeld ?_
    refine tb 21 26 (bA 38 4194303) HT_ HW_ hHeld ?_
    refine pu 22 27 (bA 38 8388607) HT_ ?_
    refine pu 23 28 (bA 38 16777215) HT_ ?_
    refine pu 24 29 (bA 38 33554431) HT_ ?_
    refine pn 25 30 (bA 38 67108863) HT_ ?_
    refine pn 26 31 (bA 38 134217727) HT_ ?_
    refine pn 27 32 (bA 38 268435455) HT_ ?_
    refine pn 28 33 (bA 38 536870911) HT_ ?_
    refine pn 29 34 (bA 38 1073741823) HT_ ?_
    refine pn 30 35 (bA 38 2147483647) HT_ ?_
    refine pn 31 36 (bA 38 4294967295) HT_ ?_
    refine pn 32 37 (bA 38 8589934591) HT_ ?_
    refine pn 33 38 (bA 38 17179869183) HT_ ?_
    refine pn 34 39 (bA 38 34359738367) HT_ ?_
    refine pn 35 40 (bA 38 68719476735) HT_ ?_
    refine pn 36 41 (bA 38 137438953471) HT_ ?_
    refine pu 37 42 (bA 38 274877906943) HT_ ?_
    refine done_ (done_of HT_.out (by kernel_rfl)) ?_
    try go_wp2
    go_meet
    case rel => exact ⟨_, (true), (by first | rfl | (simp; done) | (simp [*]; done)), H', ⟨by first | omega | exact Nat.le_refl _⟩, ⟨pl BK50.out⟩, ⟨pl BK51.out⟩, ⟨be HB.out⟩⟩
  ·rw [if_neg c4] at H
   have c4b0 : (a0_0 == a1_0) = false := beq_eq_false_iff_ne.mpr c4
   have c4b1 : (a0_0 != a1_0) = true := bne_iff_ne.mpr c4
   (first | rw [c4b0] | (simp only [i64_w, i32_w]; rw [c4b0]) | skip)
   have H' := Aside0.mk H
   clear H
   try go_wp2
   have n0_ := Aside0.mk (blk_drew BK50.out)
   have n1_ := Aside0.mk (blk_drew BK51.out)
   have n2_ := Aside0.mk (below_drew1 HB.out)
   clear BK50
   clear BK51
   clear HB
   have BK50 := n0_
   have BK51 := n1_
   have HB := n2_
   clear n0_ n1_ n2_
   as_aux_lemma =>
   refine st2 BK50.out BK51.out (bA 38 0) (by kernel_rfl) rfl rfl (fun hHeld => ?_); refine with_tabW spec_l5Shown.tab1 spec_l5Shown.bits1 (fun HT_ HW_ => ?_)
   generalize w.drew = w9 at BK50 BK51 HB hHeld ⊢
   refine pu 0 5 (bA 38 1) HT_ ?_
   refine pu 1 6 (bA 38 3) HT_ ?_
   refine pu 2 7 (bA 38 7) HT_ ?_
   refine pu 3 8 (bA 38 15) HT_ ?_
   refine pu 5 10 (bA 38 47) HT_ ?_
   refine pu 6 11 (bA 38 111) HT_ ?_
   refine pu 7 12 (bA 38 239) HT_ ?_
   refine pu 8 13 (bA 38 495) HT_ ?_
   refine tb 4 9 (bA 38 511) HT_ HW_ hHeld ?_
   refine tb 9 14 (bA 38 1023) HT_ HW_ hHeld ?_
   refine pu 10 15 (bA 38 2047) HT_ ?_
   refine pu 11 16 (bA 38 4095) HT_ ?_
   refine pn 12 17 (bA 38 8191) HT_ ?_
   refine pn 13 18 (bA 38 16383) HT_ ?_
   refine pn 14 19 (bA 38 32767) HT_ ?_
   refine pn 15 20 (bA 38 65535) HT_ ?_
   refine pn 16 21 (bA 38 131071) HT_ ?_
   refine pn 17 22 (bA 38 262143) HT_ ?_
   refine pn 18 23 (bA 38 524287) HT_ ?_
   refine pn 19 24 (bA 38 1048575) HT_ ?_
   refine pn 20 25 (bA 38 2097151) HT_ ?_
   refine pn 21 26 (bA 38 4194303) HT_ ?_
   refine pn 22 27 (bA 38 8388607) HT_ ?_
   refine pu 23 28 (bA 38 16777215) HT_ ?_
   refine pu 24 29 (bA 38 33554431) HT_ ?_
   refine pn 25 30 (bA 38 67108863) HT_ ?_
   refine pn 26 31 (bA 38 134217727) HT_ ?_
   refine pn 27 32 (bA 38 268435455) HT_ ?_
   refine pn 28 33 (bA 38 536870911) HT_ ?_
   refine pn 29 34 (bA 38 1073741823) HT_ ?_
   refine pn 30 35 (bA 38 2147483647) HT_ ?_
   refine pn 31 36 (bA 38 4294967295) HT_ ?_
   refine pn 32 37 (bA 38 8589934591) HT_ ?_
   refine pn 33 38 (bA 38 17179869183) HT_ ?_
   refine pn 34 39 (bA 38 34359738367) HT_ ?_
   refine pn 35 40 (bA 38 68719476735) HT_ ?_
   refine pn 36 41 (bA 38 137438953471) HT_ ?_
   refine pu 37 42 (bA 38 274877906943) HT_ ?_
   refine done_ (done_of HT_.out (by kernel_rfl)) ?_
   try go_wp2
   go_meet
   case rel => exact ⟨_, (true), (by first | rfl | (simp; done) | (simp [*]; done)), H', ⟨by first | omega | exact Nat.le_refl _⟩, ⟨pl BK50.out⟩, ⟨pl BK51.out⟩, ⟨be HB.out⟩⟩
 case rest =>
  clear HC3
  try clear c1
  try clear p1
  try clear c2
  try clear p2
  try clear c4
  try clear c4b0
  try clear c4b1
  try clear c5
  try clear c5b0
  try clear c5b1
  obtain ⟨kq, x42_2, rfl, HA, HJ2, BK50, BK51, HB⟩ := hcut
  cases kq with
  | zero => exact absurd HA.out (by simp [spec_l5Shown.j0])
  | succ kj2 =>
   have H := HA.out
   clear HA
   simp only [spec_l5Shown.j0] at H
   by_cases c10 : x42_2 = true
   ·subst c10
    have H1 : (some false) = some r := by rw [if_pos rfl] at H; exact H
    clear H
    have H := H1
    clear H1
    obtain rfl := Option.some.inj H
    go_wp2
    go_ret
    exact ⟨by first | rfl | (simp [errW_none, errW_some] <;> rfl) | (simp [*, errW_none, errW_some] <;> rfl), by repeat (first | (with_reducible first | exact HB.out | apply below_alloc | apply pw_below_drewN | apply below_drew1 | refine below_set ?_ GE50.out | refine below_set ?_ GE51.out) | exact HB.out)⟩
   ·replace c10 := Bool.eq_false_iff.mpr c10
    subst c10
    have H1 : (if a0_4 = a1_4 then (if a0_5 = a1_5 then (if (a0_6 != a1_6) = true then (spec_l5Shown.j1 kj2 true a0_0 a0_1 l0_2 l0_3 a0_4 a0_5 a0_6 a0_7 a0_8 a0_9 a0_10 a0_11 a0_12 l0_13 a0_14 a0_15 a0_16 l0_17 a0_18 a0_19 a1_0 a1_1 l1_2 l1_3 a1_4 a1_5 a1_6 a1_7 a1_8 a1_9 a1_10 a1_11 a1_12 l1_13 a1_14 a1_15 a1_16 l1_17 a1_18 a1_19) else (if a0_7 = a1_7 then (if a0_8 = a1_8 then (spec_l5Shown.j1 kj2 (a0_9 != a1_9) a0_0 a0_1 l0_2 l0_3 a0_4 a0_5 a0_6 a0_7 a0_8 a0_9 a0_10 a0_11 a0_12 l0_13 a0_14 a0_15 a0_16 l0_17 a0_18 a0_19 a1_0 a1_1 l1_2 l1_3 a1_4 a1_5 a1_6 a1_7 a1_8 a1_9 a1_10 a1_11 a1_12 l1_13 a1_14 a1_15 a1_16 l1_17 a1_18 a1_19) else (spec_l5Shown.j1 kj2 true a0_0 a0_1 l0_2 l0_3 a0_4 a0_5 a0_6 a0_7 a0_8 a0_9 a0_10 a0_11 a0_12 l0_13 a0_14 a0_15 a0_16 l0_17 a0_18 a0_19 a1_0 a1_1 l1_2 l1_3 a1_4 a1_5 a1_6 a1_7 a1_8 a1_9 a1_10 a1_11 a1_12 l1_13 a1_14 a1_15 a1_16 l1_17 a1_18 a1_19)) else (spec_l5Shown.j1 kj2 true a0_0 a0_1 l0_2 l0_3 a0_4 a0_5 a0_6 a0_7 a0_8 a0_9 a0_10 a0_11 a0_12 l0_13 a0_14 a0_15 a0_16 l0_17 a0_18 a0_19 a1_0 a1_1 l1_2 l1_3 a1_4 a1_5 a1_6 a1_7 a1_8 a1_9 a1_10 a1_11 a1_12 l1_13 a1_14 a1_15 a1_16 l1_17 a1_18 a1_19))) else (spec_l5Shown.j1 kj2 true a0_0 a0_1 l0_2 l0_3 a0_4 a0_5 a0_6 a0_7 a0_8 a0_9 a0_10 a0_11 a0_12 l0_13 a0_14 a0_15 a0_16 l0_17 a0_18 a0_19 a1_0 a1_1 l1_2 l1_3 a1_4 a1_5 a1_6 a1_7 a1_8 a1_9 a1_10 a1_11 a1_12 l1_13 a1_14 a1_15 a1_16 l1_17 a1_18 a1_19)) else (spec_l5Shown.j1 kj2 true a0_0 a0_1 l0_2 l0_3 a0_4 a0_5 a0_6 a0_7 a0_8 a0_9 a0_10 a0_11 a0_12 l0_13 a0_14 a0_15 a0_16 l0_17 a0_18 a0_19 a1_0 a1_1 l1_2 l1_3 a1_4 a1_5 a1_6 a1_7 a1_8 a1_9 a1_10 a1_11 a1_12 l1_13 a1_14 a1_15 a1_16 l1_17 a1_18 a1_19)) = some r := by rw [if_neg (show ¬ (false = true) by decide)] at H; exact H
    clear H
    have H := H1
    clear H1
    have HC11 := Aside0.mk H
    clear H
    go_upto_region 3 with (fail)
    go_cut [106] (fun v106 wc => ∃ (kq : Nat) (x106_10 : Bool), v106 = .bool x106_10 ∧ Aside0 (spec_l5Shown.j1 kq x106_10 a0_0 a0_1 l0_2 l0_3 a0_4 a0_5 a0_6 a0_7 a0_8 a0_9 a0_10 a0_11 a0_12 l0_13 a0_14 a0_15 a0_16 l0_17 a0_18 a0_19 a1_0 a1_1 l1_2 l1_3 a1_4 a1_5 a1_6 a1_7 a1_8 a1_9 a1_10 a1_11 a1_12 l1_13 a1_14 a1_15 a1_16 l1_17 a1_18 a1_19 = some r) ∧ Aside0 (kq ≤ kj2) ∧ Aside0 (wc.heap[gp0]? = some (.cells #[P0_0, P0_1, P0_2, P0_3, P0_4, P0_5, P0_6, .int .i64 a0_0, .int .i64 a0_1, .slice A0_2 l0_2.length c0_2, .slice A0_3 l0_3.length c0_3, .int .i64 a0_4, .int .i64 a0_5, .bool a0_6, .int .i64 a0_7, .int .i64 a0_8, .int .i64 a0_9, .bool a0_10, .bool a0_11, .bool a0_12, .slice A0_13 l0_13.length c0_13, .int .i64 a0_14, .int .i64 a0_15, .int .i64 a0_16, .slice A0_17 l0_17.length c0_17, .int .i64 a0_18, .int .i64 a0_19] 45 (0, 0))) ∧ Aside0 (wc.heap[gp1]? = some (.cells #[P1_0, P1_1, P1_2, P1_3, P1_4, P1_5, P1_6, .int .i64 a1_0, .int .i64 a1_1, .slice A1_2 l1_2.length c1_2, .slice A1_3 l1_3.length c1_3, .int .i64 a1_4, .int .i64 a1_5, .bool a1_6, .int .i64 a1_7, .int .i64 a1_8, .int .i64 a1_9, .bool a1_10, .bool a1_11, .bool a1_12, .slice A1_13 l1_13.length c1_13, .int .i64 a1_14, .int .i64 a1_15, .int .i64 a1_16, .slice A1_17 l1_17.length c1_17, .int .i64 a1_18, .int .i64 a1_19] 45 (0, 0))) ∧ Aside0 (Below w.heap.size w wc))
    case first =>
     have H := HC11.out
     clear HC11
     by_cases c12 : a0_4 = a1_4
     ·rw [if_pos c12] at H
      have c12b0 : (a0_4 == a1_4) = true := beq_iff_eq.mpr c12
      have c12b1 : (a0_4 != a1_4) = false := bne_eq_false_iff_eq.mpr c12
      clear c12
      (first | rw [c12b0] | (simp only [i64_w, i32_w]; rw [c12b0]) | skip)
      by_cases c13 : a0_5 = a1_5
      ·rw [if_pos c13] at H
       have c13b0 : (a0_5 == a1_5) = true := beq_iff_eq.mpr c13
       have c13b1 : (a0_5 != a1_5) = false := bne_eq_false_iff_eq.mpr c13
       clear c13
       by_cases c14 : (a0_6 != a1_6) = true
       ·rw [if_pos c14] at H
        have c14b0 : (a0_6 != a1_6) = true := c14
        (try (have c14b1 : decide (a0_6 = a1_6) = false := by simpa using c14))
        (try (have c14b2 : (a0_6 == a1_6) = false := by simpa using c14))
        (try (have c14b3 : ¬ (a0_6 = a1_6) := by simpa using c14))
        clear c14
        have H' := Aside0.mk H
        clear H
        try go_wp2
        have n0_ := Aside0.mk (blk_drew BK50.out)
        have n1_ := Aside0.mk (blk_drew BK51.out)
        have n2_ := Aside0.mk (below_drew1 HB.out)
        clear BK50
        clear BK51
        clear HB
        have BK50 := n0_
        have BK51 := n1_
        have HB := n2_
        clear n0_ n1_ n2_
        as_aux_lemma =>
        refine st2 BK50.out BK51.out (bA 64 0) (by kernel_rfl) rfl rfl (fun hHeld => ?_); refine with_tabW spec_l5Shown.tab3 spec_l5Shown.bits3 (fun HT_ HW_ => ?_)
        generalize wc.drew = w15 at BK50 BK51 HB hHeld ⊢
        refine pu 0 43 (bA 64 1) HT_ ?_
        refine pu 1 44 (bA 64 3) HT_ ?_
        refine pu 2 45 (bA 64 7) HT_ ?_
        refine pu 4 47 (bA 64 23) HT_ ?_
        refine pu 5 48 (bA 64 55) HT_ ?_
        refine pu 6 49 (bA 64 119) HT_ ?_
        refine tb 3 46 (bA 64 127) HT_ HW_ hHeld ?_
        refine tb 7 50 (bA 64 255) HT_ HW_ hHeld ?_
        refine pu 8 51 (bA 64 511) HT_ ?_
        refine pu 9 52 (bA 64 1023) HT_ ?_
        refine pu 10 53 (bA 64 2047) HT_ ?_
        refine pu 11 54 (bA 64 4095) HT_ ?_
        refine pu 12 55 (bA 64 8191) HT_ ?_
        refine pu 14 57 (bA 64 24575) HT_ ?_
        refine pu 15 58 (bA 64 57343) HT_ ?_
        refine pu 16 59 (bA 64 122879) HT_ ?_
        refine tb 13 56 (bA 64 131071) HT_ HW_ hHeld ?_
        refine tb 17 60 (bA 64 262143) HT_ HW_ hHeld ?_
        refine pu 18 61 (bA 64 524287) HT_ ?_
        refine pu 19 62 (bA 64 1048575) HT_ ?_
        refine pu 20 63 (bA 64 2097151) HT_ ?_
        refine pu 21 64 (bA 64 4194303) HT_ ?_
        refine pu 22 65 (bA 64 8388607) HT_ ?_
        refine pu 23 66 (bA 64 16777215) HT_ ?_
        refine pu 25 68 (bA 64 50331647) HT_ ?_
        refine pu 26 69 (bA 64 117440511) HT_ ?_
        refine pu 27 70 (bA 64 251658239) HT_ ?_
        refine tb 24 67 (bA 64 268435455) HT_ HW_ hHeld ?_
        refine tb 28 71 (bA 64 536870911) HT_ HW_ hHeld ?_
        refine pu 29 72 (bA 64 1073741823) HT_ ?_
        refine pu 30 73 (bA 64 2147483647) HT_ ?_
        refine pu 31 74 (bA 64 4294967295) HT_ ?_
        refine pn 32 75 (bA 64 8589934591) HT_ ?_
        refine pn 33 76 (bA 64 17179869183) HT_ ?_
        refine pn 34 77 (bA 64 34359738367) HT_ ?_
        refine pn 35 78 (bA 64 68719476735) HT_ ?_
        refine pn 36 79 (bA 64 137438953471) HT_ ?_
        refine pn 37 80 (bA 64 274877906943) HT_ ?_
        refine pn 38 81 (bA 64 549755813887) HT_ ?_
        refine pn 39 82 (bA 64 1099511627775) HT_ ?_
        refine pn 40 83 (bA 64 2199023255551) HT_ ?_
        refine pu 41 84 (bA 64 4398046511103) HT_ ?_
        refine pu 42 85 (bA 64 8796093022207) HT_ ?_
        refine pn 43 86 (bA 64 17592186044415) HT_ ?_
        refine pn 44 87 (bA 64 35184372088831) HT_ ?_
        refine pn 45 88 (bA 64 70368744177663) HT_ ?_
        refine pn 46 89 (bA 64 140737488355327) HT_ ?_
        refine pn 47 90 (bA 64 281474976710655) HT_ ?_
        refine pn 48 91 (bA 64 562949953421311) HT_ ?_
        refine pn 49 92 (bA 64 1125899906842623) HT_ ?_
        refine pn 50 93 (bA 64 2251799813685247) HT_ ?_
        refine pn 51 94 (bA 64 4503599627370495) HT_ ?_
        refine pu 52 95 (bA 64 9007199254740991) HT_ ?_
        refine pu 53 96 (bA 64 18014398509481983) HT_ ?_
        refine pn 54 97 (bA 64 36028797018963967) HT_ ?_
        refine pn 55 98 (bA 64 72057594037927935) HT_ ?_
        refine pn 56 99 (bA 64 144115188075855871) HT_ ?_
        refine pn 57 100 (bA 64 288230376151711743) HT_ ?_
        refine pn 58 101 (bA 64 576460752303423487) HT_ ?_
        refine pn 59 102 (bA 64 1152921504606846975) HT_ ?_
        refine pn 60 103 (bA 64 2305843009213693951) HT_ ?_
        refine pn 61 104 (bA 64 4611686018427387903) HT_ ?_
        refine pn 62 105 (bA 64 9223372036854775807) HT_ ?_
        refine pu 63 106 (bA 64 18446744073709551615) HT_ ?_
        refine done_ (done_of HT_.out (by kernel_rfl)) ?_
        try go_wp2
        go_meet
        case rel => exact ⟨_, (true), (by first | rfl | (simp; done) | (simp [*]; done)), H', ⟨by have := HJ2.out; first | omega | exact Nat.le_refl _⟩, ⟨pl BK50.out⟩, ⟨pl BK51.out⟩, ⟨be HB.out⟩⟩
       ·rw [if_neg c14] at H
        have c14b0 : (a0_6 != a1_6) = false := by simpa using c14
        (try (have c14b1 : decide (a0_6 = a1_6) = true := by simpa using c14))
        (try (have c14b2 : (a0_6 == a1_6) = true := by simpa using c14))
        clear c14
        by_cases c16 : a0_7 = a1_7
        ·rw [if_pos c16] at H
         have c16b0 : (a0_7 == a1_7) = true := beq_iff_eq.mpr c16
         have c16b1 : (a0_7 != a1_7) = false := bne_eq_false_iff_eq.mpr c16
         clear c16
         by_cases c17 : a0_8 = a1_8
         ·rw [if_pos c17] at H
          have c17b0 : (a0_8 == a1_8) = true := beq_iff_eq.mpr c17
          have c17b1 : (a0_8 != a1_8) = false := bne_eq_false_iff_eq.mpr c17
          clear c17
          have H' := Aside0.mk H
          clear H
          try go_wp2
          have n0_ := Aside0.mk (blk_drew BK50.out)
          have n1_ := Aside0.mk (blk_drew BK51.out)
          have n2_ := Aside0.mk (below_drew1 HB.out)
          clear BK50
          clear BK51
          clear HB
          have BK50 := n0_
          have BK51 := n1_
          have HB := n2_
          clear n0_ n1_ n2_
          as_aux_lemma =>
          refine st2 BK50.out BK51.out (bA 64 0) (by kernel_rfl) rfl rfl (fun hHeld => ?_); refine with_tabW spec_l5Shown.tab3 spec_l5Shown.bits3 (fun HT_ HW_ => ?_)
          generalize wc.drew = w18 at BK50 BK51 HB hHeld ⊢
          refine pu 0 43 (bA 64 1) HT_ ?_
          refine pu 1 44 (bA 64 3) HT_ ?_
          refine pu 2 45 (bA 64 7) HT_ ?_
          refine pu 4 47 (bA 64 23) HT_ ?_
          refine pu 5 48 (bA 64 55) HT_ ?_
          refine pu 6 49 (bA 64 119) HT_ ?_
          refine tb 3 46 (bA 64 127) HT_ HW_ hHeld ?_
          refine tb 7 50 (bA 64 255) HT_ HW_ hHeld ?_
          refine pu 8 51 (bA 64 511) HT_ ?_
          refine pu 9 52 (bA 64 1023) HT_ ?_
          refine pu 10 53 (bA 64 2047) HT_ ?_
          refine pu 11 54 (bA 64 4095) HT_ ?_
          refine pu 12 55 (bA 64 8191) HT_ ?_
          refine pu 14 57 (bA 64 24575) HT_ ?_
          refine pu 15 58 (bA 64 57343) HT_ ?_
          refine pu 16 59 (bA 64 122879) HT_ ?_
          refine tb 13 56 (bA 64 131071) HT_ HW_ hHeld ?_
          refine tb 17 60 (bA 64 262143) HT_ HW_ hHeld ?_
          refine pu 18 61 (bA 64 524287) HT_ ?_
          refine pu 19 62 (bA 64 1048575) HT_ ?_
          refine pu 20 63 (bA 64 2097151) HT_ ?_
          refine pu 21 64 (bA 64 4194303) HT_ ?_
          refine pu 22 65 (bA 64 8388607) HT_ ?_
          refine pu 23 66 (bA 64 16777215) HT_ ?_
          refine pu 25 68 (bA 64 50331647) HT_ ?_
          refine pu 26 69 (bA 64 117440511) HT_ ?_
          refine pu 27 70 (bA 64 251658239) HT_ ?_
          refine tb 24 67 (bA 64 268435455) HT_ HW_ hHeld ?_
          refine tb 28 71 (bA 64 536870911) HT_ HW_ hHeld ?_
          refine pu 29 72 (bA 64 1073741823) HT_ ?_
          refine pu 30 73 (bA 64 2147483647) HT_ ?_
          refine pu 31 74 (bA 64 4294967295) HT_ ?_
          refine pu 32 75 (bA 64 8589934591) HT_ ?_
          refine pu 33 76 (bA 64 17179869183) HT_ ?_
          refine pu 34 77 (bA 64 34359738367) HT_ ?_
          refine pu 36 79 (bA 64 103079215103) HT_ ?_
          refine pu 37 80 (bA 64 240518168575) HT_ ?_
          refine pu 38 81 (bA 64 515396075519) HT_ ?_
          refine tb 35 78 (bA 64 549755813887) HT_ HW_ hHeld ?_
          refine tb 39 82 (bA 64 1099511627775) HT_ HW_ hHeld ?_
          refine pu 40 83 (bA 64 2199023255551) HT_ ?_
          refine pu 41 84 (bA 64 4398046511103) HT_ ?_
          refine pu 42 85 (bA 64 8796093022207) HT_ ?_
          refine pu 43 86 (bA 64 17592186044415) HT_ ?_
          refine pu 44 87 (bA 64 35184372088831) HT_ ?_
          refine pu 45 88 (bA 64 70368744177663) HT_ ?_
          refine pu 47 90 (bA 64 211106232532991) HT_ ?_
          refine pu 48 91 (bA 64 492581209243647) HT_ ?_
          refine pu 49 92 (bA 64 1055531162664959) HT_ ?_
          refine tb 46 89 (bA 64 1125899906842623) HT_ HW_ hHeld ?_
          refine tb 50 93 (bA 64 2251799813685247) HT_ HW_ hHeld ?_
          refine pu 51 94 (bA 64 4503599627370495) HT_ ?_
          refine pu 52 95 (bA 64 9007199254740991) HT_ ?_
          refine pu 53 96 (bA 64 18014398509481983) HT_ ?_
          refine pu 54 97 (bA 64 36028797018963967) HT_ ?_
          refine pu 55 98 (bA 64 72057594037927935) HT_ ?_
          refine pu 56 99 (bA 64 144115188075855871) HT_ ?_
          refine pu 58 101 (bA 64 432345564227567615) HT_ ?_
          refine pu 59 102 (bA 64 1008806316530991103) HT_ ?_
          refine pu 60 103 (bA 64 2161727821137838079) HT_ ?_
          refine tb 57 100 (bA 64 2305843009213693951) HT_ HW_ hHeld ?_
          refine tb 61 104 (bA 64 4611686018427387903) HT_ HW_ hHeld ?_
          refine pu 62 105 (bA 64 9223372036854775807) HT_ ?_
          refine pu 63 106 (bA 64 18446744073709551615) HT_ ?_
          refine done_ (done_of HT_.out (by kernel_rfl)) ?_
          try go_wp2
          go_meet
          case rel => exact ⟨_, ((a0_9 != a1_9)), (by first | rfl | (simp; done) | (simp [*]; done)), H', ⟨by have := HJ2.out; first | omega | exact Nat.le_refl _⟩, ⟨pl BK50.out⟩, ⟨pl BK51.out⟩, ⟨be HB.out⟩⟩
         ·rw [if_neg c17] at H
          have c17b0 : (a0_8 == a1_8) = false := beq_eq_false_iff_ne.mpr c17
          have c17b1 : (a0_8 != a1_8) = true := bne_iff_ne.mpr c17
          have H' := Aside0.mk H
          clear H
          try go_wp2
          have n0_ := Aside0.mk (blk_drew BK50.out)
          have n1_ := Aside0.mk (blk_drew BK51.out)
          have n2_ := Aside0.mk (below_drew1 HB.out)
          clear BK50
          clear BK51
          clear HB
          have BK50 := n0_
          have BK51 := n1_
          have HB := n2_
          clear n0_ n1_ n2_
          as_aux_lemma =>
          refine st2 BK50.out BK51.out (bA 64 0) (by kernel_rfl) rfl rfl (fun hHeld => ?_); refine with_tabW spec_l5Shown.tab3 spec_l5Shown.bits3 (fun HT_ HW_ => ?_)
          generalize wc.drew = w19 at BK50 BK51 HB hHeld ⊢
          refine pu 0 43 (bA 64 1) HT_ ?_
          refine pu 1 44 (bA 64 3) HT_ ?_
          refine pu 2 45 (bA 64 7) HT_ ?_
          refine pu 4 47 (bA 64 23) HT_ ?_
          refine pu 5 48 (bA 64 55) HT_ ?_
          refine pu 6 49 (bA 64 119) HT_ ?_
          refine tb 3 46 (bA 64 127) HT_ HW_ hHeld ?_
          refine tb 7 50 (bA 64 255) HT_ HW_ hHeld ?_
          refine pu 8 51 (bA 64 511) HT_ ?_
          refine pu 9 52 (bA 64 1023) HT_ ?_
          refine pu 10 53 (bA 64 2047) HT_ ?_
          refine pu 11 54 (bA 64 4095) HT_ ?_
          refine pu 12 55 (bA 64 8191) HT_ ?_
          refine pu 14 57 (bA 64 24575) HT_ ?_
          refine pu 15 58 (bA 64 57343) HT_ ?_
          refine pu 16 59 (bA 64 122879) HT_ ?_
          refine tb 13 56 (bA 64 131071) HT_ HW_ hHeld ?_
          refine tb 17 60 (bA 64 262143) HT_ HW_ hHeld ?_
          refine pu 18 61 (bA 64 524287) HT_ ?_
          refine pu 19 62 (bA 64 1048575) HT_ ?_
          refine pu 20 63 (bA 64 2097151) HT_ ?_
          refine pu 21 64 (bA 64 4194303) HT_ ?_
          refine pu 22 65 (bA 64 8388607) HT_ ?_
          refine pu 23 66 (bA 64 16777215) HT_ ?_
          refine pu 25 68 (bA 64 50331647) HT_ ?_
          refine pu 26 69 (bA 64 117440511) HT_ ?_
          refine pu 27 70 (bA 64 251658239) HT_ ?_
          refine tb 24 67 (bA 64 268435455) HT_ HW_ hHeld ?_
          refine tb 28 71 (bA 64 536870911) HT_ HW_ hHeld ?_
          refine pu 29 72 (bA 64 1073741823) HT_ ?_
          refine pu 30 73 (bA 64 2147483647) HT_ ?_
          refine pu 31 74 (bA 64 4294967295) HT_ ?_
          refine pu 32 75 (bA 64 8589934591) HT_ ?_
          refine pu 33 76 (bA 64 17179869183) HT_ ?_
          refine pu 34 77 (bA 64 34359738367) HT_ ?_
          refine pu 36 79 (bA 64 103079215103) HT_ ?_
          refine pu 37 80 (bA 64 240518168575) HT_ ?_
          refine pu 38 81 (bA 64 515396075519) HT_ ?_
          refine tb 35 78 (bA 64 549755813887) HT_ HW_ hHeld ?_
          refine tb 39 82 (bA 64 1099511627775) HT_ HW_ hHeld ?_
          refine pu 40 83 (bA 64 2199023255551) HT_ ?_
          refine pu 41 84 (bA 64 4398046511103) HT_ ?_
          refine pu 42 85 (bA 64 8796093022207) HT_ ?_
          refine pu 43 86 (bA 64 17592186044415) HT_ ?_
          refine pu 44 87 (bA 64 35184372088831) HT_ ?_
          refine pu 45 88 (bA 64 70368744177663) HT_ ?_
          refine pu 47 90 (bA 64 211106232532991) HT_ ?_
          refine pu 48 91 (bA 64 492581209243647) HT_ ?_
          refine pu 49 92 (bA 64 1055531162664959) HT_ ?_
          refine tb 46 89 (bA 64 1125899906842623) HT_ HW_ hHeld ?_
          refine tb 50 93 (bA 64 2251799813685247) HT_ HW_ hHeld ?_
          refine pu 51 94 (bA 64 4503599627370495) HT_ ?_
          refine pu 52 95 (bA 64 9007199254740991) HT_ ?_
          refine pu 53 96 (bA 64 18014398509481983) HT_ ?_
          refine pn 54 97 (bA 64 36028797018963967) HT_ ?_
          refine pn 55 98 (bA 64 72057594037927935) HT_ ?_
          refine pn 56 99 (bA 64 144115188075855871) HT_ ?_
          refine pn 57 100 (bA 64 288230376151711743) HT_ ?_
          refine pn 58 101 (bA 64 576460752303423487) HT_ ?_
          refine pn 59 102 (bA 64 1152921504606846975) HT_ ?_
          refine pn 60 103 (bA 64 2305843009213693951) HT_ ?_
          refine pn 61 104 (bA 64 4611686018427387903) HT_ ?_
          refine pn 62 105 (bA 64 9223372036854775807) HT_ ?_
          refine pu 63 106 (bA 64 18446744073709551615) HT_ ?_
          refine done_ (done_of HT_.out (by kernel_rfl)) ?_
          try go_wp2
          go_meet
          case rel => exact ⟨_, (true), (by first | rfl | (simp; done) | (simp [*]; done)), H', ⟨by have := HJ2.out; first | omega | exact Nat.le_refl _⟩, ⟨pl BK50.out⟩, ⟨pl BK51.out⟩, ⟨be HB.out⟩⟩
        ·rw [if_neg c16] at H
         have c16b0 : (a0_7 == a1_7) = false := beq_eq_false_iff_ne.mpr c16
         have c16b1 : (a0_7 != a1_7) = true := bne_iff_ne.mpr c16
         have H' := Aside0.mk H
         clear H
         try go_wp2
         have n0_ := Aside0.mk (blk_drew BK50.out)
         have n1_ := Aside0.mk (blk_drew BK51.out)
         have n2_ := Aside0.mk (below_drew1 HB.out)
         clear BK50
         clear BK51
         clear HB
         have BK50 := n0_
         have BK51 := n1_
         have HB := n2_
         clear n0_ n1_ n2_
         as_aux_lemma =>
         refine st2 BK50.out BK51.out (bA 64 0) (by kernel_rfl) rfl rfl (fun hHeld => ?_); refine with_tabW spec_l5Shown.tab3 spec_l5Shown.bits3 (fun HT_ HW_ => ?_)
         generalize wc.drew = w20 at BK50 BK51 HB hHeld ⊢
         refine pu 0 43 (bA 64 1) HT_ ?_
         refine pu 1 44 (bA 64 3) HT_ ?_
         refine pu 2 45 (bA 64 7) HT_ ?_
         refine pu 4 47 (bA 64 23) HT_ ?_
         refine pu 5 48 (bA 64 55) HT_ ?_
         refine pu 6 49 (bA 64 119) HT_ ?_
         refine tb 3 46 (bA 64 127) HT_ HW_ hHeld ?_
         refine tb 7 50 (bA 64 255) HT_ HW_ hHeld ?_
         refine pu 8 51 (bA 64 511) HT_ ?_
         refine pu 9 52 (bA 64 1023) HT_ ?_
         refine pu 10 53 (bA 64 2047) HT_ ?_
         refine pu 11 54 (bA 64 4095) HT_ ?_
         refine pu 12 55 (bA 64 8191) HT_ ?_
         refine pu 14 57 (bA 64 24575) HT_ ?_
         refine pu 15 58 (bA 64 57343) HT_ ?_
         refine pu 16 59 (bA 64 122879) HT_ ?_
         refine tb 13 56 (bA 64 131071) HT_ HW_ hHeld ?_
         refine tb 17 60 (bA 64 262143) HT_ HW_ hHeld ?_
         refine pu 18 61 (bA 64 524287) HT_ ?_
         refine pu 19 62 (bA 64 1048575) HT_ ?_
         refine pu 20 63 (bA 64 2097151) HT_ ?_
         refine pu 21 64 (bA 64 4194303) HT_ ?_
         refine pu 22 65 (bA 64 8388607) HT_ ?_
         refine pu 23 66 (bA 64 16777215) HT_ ?_
         refine pu 25 68 (bA 64 50331647) HT_ ?_
         refine pu 26 69 (bA 64 117440511) HT_ ?_
         refine pu 27 70 (bA 64 251658239) HT_ ?_
         refine tb 24 67 (bA 64 268435455) HT_ HW_ hHeld ?_
         refine tb 28 71 (bA 64 536870911) HT_ HW_ hHeld ?_
         refine pu 29 72 (bA 64 1073741823) HT_ ?_
         refine pu 30 73 (bA 64 2147483647) HT_ ?_
         refine pu 31 74 (bA 64 4294967295) HT_ ?_
         refine pu 32 75 (bA 64 8589934591) HT_ ?_
         refine pu 33 76 (bA 64 17179869183) HT_ ?_
         refine pu 34 77 (bA 64 34359738367) HT_ ?_
         refine pu 36 79 (bA 64 103079215103) HT_ ?_
         refine pu 37 80 (bA 64 240518168575) HT_ ?_
         refine pu 38 81 (bA 64 515396075519) HT_ ?_
         refine tb 35 78 (bA 64 549755813887) HT_ HW_ hHeld ?_
         refine tb 39 82 (bA 64 1099511627775) HT_ HW_ hHeld ?_
         refine pu 40 83 (bA 64 2199023255551) HT_ ?_
         refine pu 41 84 (bA 64 4398046511103) HT_ ?_
         refine pu 42 85 (bA 64 8796093022207) HT_ ?_
         refine pn 43 86 (bA 64 17592186044415) HT_ ?_
         refine pn 44 87 (bA 64 35184372088831) HT_ ?_
         refine pn 45 88 (bA 64 70368744177663) HT_ ?_
         refine pn 46 89 (bA 64 140737488355327) HT_ ?_
         refine pn 47 90 (bA 64 281474976710655) HT_ ?_
         refine pn 48 91 (bA 64 562949953421311) HT_ ?_
         refine pn 49 92 (bA 64 1125899906842623) HT_ ?_
         refine pn 50 93 (bA 64 2251799813685247) HT_ ?_
         refine pn 51 94 (bA 64 4503599627370495) HT_ ?_
         refine pu 52 95 (bA 64 9007199254740991) HT_ ?_
         refine pu 53 96 (bA 64 18014398509481983) HT_ ?_
         refine pn 54 97 (bA 64 36028797018963967) HT_ ?_
         refine pn 55 98 (bA 64 72057594037927935) HT_ ?_
         refine pn 56 99 (bA 64 144115188075855871) HT_ ?_
         refine pn 57 100 (bA 64 288230376151711743) HT_ ?_
         refine pn 58 101 (bA 64 576460752303423487) HT_ ?_
         refine pn 59 102 (bA 64 1152921504606846975) HT_ ?_
         refine pn 60 103 (bA 64 2305843009213693951) HT_ ?_
         refine pn 61 104 (bA 64 4611686018427387903) HT_ ?_
         refine pn 62 105 (bA 64 9223372036854775807) HT_ ?_
         refine pu 63 106 (bA 64 18446744073709551615) HT_ ?_
         refine done_ (done_of HT_.out (by kernel_rfl)) ?_
         try go_wp2
         go_meet
         case rel => exact ⟨_, (true), (by first | rfl | (simp; done) | (simp [*]; done)), H', ⟨by have := HJ2.out; first | omega | exact Nat.le_refl _⟩, ⟨pl BK50.out⟩, ⟨pl BK51.out⟩, ⟨be HB.out⟩⟩
      ·rw [if_neg c13] at H
       have c13b0 : (a0_5 == a1_5) = false := beq_eq_false_iff_ne.mpr c13
       have c13b1 : (a0_5 != a1_5) = true := bne_iff_ne.mpr c13
       have H' := Aside0.mk H
       clear H
       try go_wp2
       have n0_ := Aside0.mk (blk_drew BK50.out)
       have n1_ := Aside0.mk (blk_drew BK51.out)
       have n2_ := Aside0.mk (below_drew1 HB.out)
       clear BK50
       clear BK51
       clear HB
       have BK50 := n0_
       have BK51 := n1_
       have HB := n2_
       clear n0_ n1_ n2_
       as_aux_lemma =>
       refine st2 BK50.out BK51.out (bA 64 0) (by kernel_rfl) rfl rfl (fun hHeld => ?_); refine with_tabW spec_l5Shown.tab3 spec_l5Shown.bits3 (fun HT_ HW_ => ?_)
       generalize wc.drew = w21 at BK50 BK51 HB hHeld ⊢
       refine pu 0 43 (bA 64 1) HT_ ?_
       refine pu 1 44 (bA 64 3) HT_ ?_
       refine pu 2 45 (bA 64 7) HT_ ?_
       refine pu 4 47 (bA 64 23) HT_ ?_
       refine pu 5 48 (bA 64 55) HT_ ?_
       refine pu 6 49 (bA 64 119) HT_ ?_
       refine tb 3 46 (bA 64 127) HT_ HW_ hHeld ?_
       refine tb 7 50 (bA 64 255) HT_ HW_ hHeld ?_
       refine pu 8 51 (bA 64 511) HT_ ?_
       refine pu 9 52 (bA 64 1023) HT_ ?_
       refine pu 10 53 (bA 64 2047) HT_ ?_
       refine pu 11 54 (bA 64 4095) HT_ ?_
       refine pu 12 55 (bA 64 8191) HT_ ?_
       refine pu 14 57 (bA 64 24575) HT_ ?_
       refine pu 15 58 (bA 64 57343) HT_ ?_
       refine pu 16 59 (bA 64 122879) HT_ ?_
       refine tb 13 56 (bA 64 131071) HT_ HW_ hHeld ?_
       refine tb 17 60 (bA 64 262143) HT_ HW_ hHeld ?_
       refine pu 18 61 (bA 64 524287) HT_ ?_
       refine pu 19 62 (bA 64 1048575) HT_ ?_
       refine pu 20 63 (bA 64 2097151) HT_ ?_
       refine pn 21 64 (bA 64 4194303) HT_ ?_
       refine pn 22 65 (bA 64 8388607) HT_ ?_
       refine pn 23 66 (bA 64 16777215) HT_ ?_
       refine pn 24 67 (bA 64 33554431) HT_ ?_
       refine pn 25 68 (bA 64 67108863) HT_ ?_
       refine pn 26 69 (bA 64 134217727) HT_ ?_
       refine pn 27 70 (bA 64 268435455) HT_ ?_
       refine pn 28 71 (bA 64 536870911) HT_ ?_
       refine pn 29 72 (bA 64 1073741823) HT_ ?_
       refine pu 30 73 (bA 64 2147483647) HT_ ?_
       refine pu 31 74 (bA 64 4294967295) HT_ ?_
       refine pn 32 75 (bA 64 8589934591) HT_ ?_
       refine pn 33 76 (bA 64 17179869183) HT_ ?_
       refine pn 34 77 (bA 64 34359738367) HT_ ?_
       refine pn 35 78 (bA 64 68719476735) HT_ ?_
       refine pn 36 79 (bA 64 137438953471) HT_ ?_
       refine pn 37 80 (bA 64 274877906943) HT_ ?_
       refine pn 38 81 (bA 64 549755813887) HT_ ?_
       refine pn 39 82 (bA 64 1099511627775) HT_ ?_
       refine pn 40 83 (bA 64 2199023255551) HT_ ?_
       refine pu 41 84 (bA 64 4398046511103) HT_ ?_
       refine pu 42 85 (bA 64 8796093022207) HT_ ?_
       refine pn 43 86 (bA 64 17592186044415) HT_ ?_
       refine pn 44 87 (bA 64 35184372088831) HT_ ?_
       refine pn 45 88 (bA 64 70368744177663) HT_ ?_
       refine pn 46 89 (bA 64 140737488355327) HT_ ?_
       refine pn 47 90 (bA 64 281474976710655) HT_ ?_
       refine pn 48 91 (bA 64 562949953421311) HT_ ?_
       refine pn 49 92 (bA 64 1125899906842623) HT_ ?_
       refine pn 50 93 (bA 64 2251799813685247) HT_ ?_
       refine pn 51 94 (bA 64 4503599627370495) HT_ ?_
       refine pu 52 95 (bA 64 9007199254740991) HT_ ?_
       refine pu 53 96 (bA 64 18014398509481983) HT_ ?_
       refine pn 54 97 (bA 64 36028797018963967) HT_ ?_
       refine pn 55 98 (bA 64 72057594037927935) HT_ ?_
       refine pn 56 99 (bA 64 144115188075855871) HT_ ?_
       refine pn 57 100 (bA 64 288230376151711743) HT_ ?_
       refine pn 58 101 (bA 64 576460752303423487) HT_ ?_
       refine pn 59 102 (bA 64 1152921504606846975) HT_ ?_
       refine pn 60 103 (bA 64 2305843009213693951) HT_ ?_
       refine pn 61 104 (bA 64 4611686018427387903) HT_ ?_
       refine pn 62 105 (bA 64 9223372036854775807) HT_ ?_
       refine pu 63 106 (bA 64 18446744073709551615) HT_ ?_
       refine done_ (done_of HT_.out (by kernel_rfl)) ?_
       try go_wp2
       go_meet
       case rel => exact ⟨_, (true), (by first | rfl | (simp; done) | (simp [*]; done)), H', ⟨by have := HJ2.out; first | omega | exact Nat.le_refl _⟩, ⟨pl BK50.out⟩, ⟨pl BK51.out⟩, ⟨be HB.out⟩⟩
     ·rw [if_neg c12] at H
      have c12b0 : (a0_4 == a1_4) = false := beq_eq_false_iff_ne.mpr c12
      have c12b1 : (a0_4 != a1_4) = true := bne_iff_ne.mpr c12
      (first | rw [c12b0] | (simp only [i64_w, i32_w]; rw [c12b0]) | skip)
      have H' := Aside0.mk H
      clear H
      try go_wp2
      have n0_ := Aside0.mk (blk_drew BK50.out)
      have n1_ := Aside0.mk (blk_drew BK51.out)
      have n2_ := Aside0.mk (below_drew1 HB.out)
      clear BK50
      clear BK51
      clear HB
      have BK50 := n0_
      have BK51 := n1_
      have HB := n2_
      clear n0_ n1_ n2_
      as_aux_lemma =>
      refine st2 BK50.out BK51.out (bA 64 0) (by kernel_rfl) rfl rfl (fun hHeld => ?_); refine with_tabW spec_l5Shown.tab3 spec_l5Shown.bits3 (fun HT_ HW_ => ?_)
      generalize wc.drew = w22 at BK50 BK51 HB hHeld ⊢
      refine pu 0 43 (bA 64 1) HT_ ?_
      refine pu 1 44 (bA 64 3) HT_ ?_
      refine pu 2 45 (bA 64 7) HT_ ?_
      refine pu 4 47 (bA 64 23) HT_ ?_
      refine pu 5 48 (bA 64 55) HT_ ?_
      refine pu 6 49 (bA 64 119) HT_ ?_
      refine tb 3 46 (bA 64 127) HT_ HW_ hHeld ?_
      refine tb 7 50 (bA 64 255) HT_ HW_ hHeld ?_
      refine pu 8 51 (bA 64 511) HT_ ?_
      refine pu 9 52 (bA 64 1023) HT_ ?_
      refine pn 10 53 (bA 64 2047) HT_ ?_
      refine pn 11 54 (bA 64 4095) HT_ ?_
      refine pn 12 55 (bA 64 8191) HT_ ?_
      refine pn 13 56 (bA 64 16383) HT_ ?_
      refine pn 14 57 (bA 64 32767) HT_ ?_
      refine pn 15 58 (bA 64 65535) HT_ ?_
      refine pn 16 59 (bA 64 131071) HT_ ?_
      refine pn 17 60 (bA 64 262143) HT_ ?_
      refine pn 18 61 (bA 64 524287) HT_ ?_
      refine pu 19 62 (bA 64 1048575) HT_ ?_
      refine pu 20 63 (bA 64 2097151) HT_ ?_
      refine pn 21 64 (bA 64 4194303) HT_ ?_
      refine pn 22 65 (bA 64 8388607) HT_ ?_
      refine pn 23 66 (bA 64 16777215) HT_ ?_
      refine pn 24 67 (bA 64 33554431) HT_ ?_
      refine pn 25 68 (bA 64 67108863) HT_ ?_
      refine pn 26 69 (bA 64 134217727) HT_ ?_
      refine pn 27 70 (bA 64 268435455) HT_ ?_
      refine pn 28 71 (bA 64 536870911) HT_ ?_
      refine pn 29 72 (bA 64 1073741823) HT_ ?_
      refine pu 30 73 (bA 64 2147483647) HT_ ?_
      refine pu 31 74 (bA 64 4294967295) HT_ ?_
      refine pn 32 75 (bA 64 8589934591) HT_ ?_
      refine pn 33 76 (bA 64 17179869183) HT_ ?_
      refine pn 34 77 (bA 64 34359738367) HT_ ?_
      refine pn 35 78 (bA 64 68719476735) HT_ ?_
      refine pn 36 79 (bA 64 137438953471) HT_ ?_
      refine pn 37 80 (bA 64 274877906943) HT_ ?_
      refine pn 38 81 (bA 64 549755813887) HT_ ?_
      refine pn 39 82 (bA 64 1099511627775) HT_ ?_
      refine pn 40 83 (bA 64 2199023255551) HT_ ?_
      refine pu 41 84 (bA 64 4398046511103) HT_ ?_
      refine pu 42 85 (bA 64 8796093022207) HT_ ?_
      refine pn 43 86 (bA 64 17592186044415) HT_ ?_
      refine pn 44 87 (bA 64 35184372088831) HT_ ?_
      refine pn 45 88 (bA 64 70368744177663) HT_ ?_
      refine pn 46 89 (bA 64 140737488355327) HT_ ?_
      refine pn 47 90 (bA 64 281474976710655) HT_ ?_
      refine pn 48 91 (bA 64 562949953421311) HT_ ?_
      refine pn 49 92 (bA 64 1125899906842623) HT_ ?_
      refine pn 50 93 (bA 64 2251799813685247) HT_ ?_
      refine pn 51 94 (bA 64 4503599627370495) HT_ ?_
      refine pu 52 95 (bA 64 9007199254740991) HT_ ?_
      refine pu 53 96 (bA 64 18014398509481983) HT_ ?_
      refine pn 54 97 (bA 64 36028797018963967) HT_ ?_
      refine pn 55 98 (bA 64 72057594037927935) HT_ ?_
      refine pn 56 99 (bA 64 144115188075855871) HT_ ?_
      refine pn 57 100 (bA 64 288230376151711743) HT_ ?_
      refine pn 58 101 (bA 64 576460752303423487) HT_ ?_
      refine pn 59 102 (bA 64 1152921504606846975) HT_ ?_
      refine pn 60 103 (bA 64 2305843009213693951) HT_ ?_
      refine pn 61 104 (bA 64 4611686018427387903) HT_ ?_
      refine pn 62 105 (bA 64 9223372036854775807) HT_ ?_
      refine pu 63 106 (bA 64 18446744073709551615) HT_ ?_
      refine done_ (done_of HT_.out (by kernel_rfl)) ?_
      try go_wp2
      go_meet
      case rel => exact ⟨_, (true), (by first | rfl | (simp; done) | (simp [*]; done)), H', ⟨by have := HJ2.out; first | omega | exact Nat.le_refl _⟩, ⟨pl BK50.out⟩, ⟨pl BK51.out⟩, ⟨be HB.out⟩⟩
    case rest =>
     clear HC11
     try clear c1
     try clear p1
     try clear p2
     try clear c12
     try clear c12b0
     try clear c12b1
     obtain ⟨kq, x106_10, rfl, HA, HJ10, BK50, BK51, HB⟩ := hcut
     cases kq with
     | zero => exact absurd HA.out (by simp [spec_l5Shown.j1])
     | succ kj10 =>
      have H := HA.out
      clear HA
      simp only [spec_l5Shown.j1] at H
      by_cases c23 : x106_10 = true
      ·subst c23
       have H1 : (some false) = some r := by rw [if_pos rfl] at H; exact H
       clear H
       have H := H1
       clear H1
       obtain rfl := Option.some.inj H
       go_wp2
       go_ret
       exact ⟨by first | rfl | (simp [errW_none, errW_some] <;> rfl) | (simp [*, errW_none, errW_some] <;> rfl), by repeat (first | (with_reducible first | exact HB.out | apply below_alloc | apply pw_below_drewN | apply below_drew1 | refine below_set ?_ GE50.out | refine below_set ?_ GE51.out) | exact HB.out)⟩
      ·replace c23 := Bool.eq_false_iff.mpr c23
       subst c23
       have H1 : (if (a0_10 != a1_10) = true then (spec_l5Shown.j2 kj10 true a0_0 a0_1 l0_2 l0_3 a0_4 a0_5 a0_6 a0_7 a0_8 a0_9 a0_10 a0_11 a0_12 l0_13 a0_14 a0_15 a0_16 l0_17 a0_18 a0_19 a1_0 a1_1 l1_2 l1_3 a1_4 a1_5 a1_6 a1_7 a1_8 a1_9 a1_10 a1_11 a1_12 l1_13 a1_14 a1_15 a1_16 l1_17 a1_18 a1_19) else (if (a0_11 != a1_11) = true then (spec_l5Shown.j2 kj10 true a0_0 a0_1 l0_2 l0_3 a0_4 a0_5 a0_6 a0_7 a0_8 a0_9 a0_10 a0_11 a0_12 l0_13 a0_14 a0_15 a0_16 l0_17 a0_18 a0_19 a1_0 a1_1 l1_2 l1_3 a1_4 a1_5 a1_6 a1_7 a1_8 a1_9 a1_10 a1_11 a1_12 l1_13 a1_14 a1_15 a1_16 l1_17 a1_18 a1_19) else (if (a0_12 != a1_12) = true then (spec_l5Shown.j2 kj10 true a0_0 a0_1 l0_2 l0_3 a0_4 a0_5 a0_6 a0_7 a0_8 a0_9 a0_10 a0_11 a0_12 l0_13 a0_14 a0_15 a0_16 l0_17 a0_18 a0_19 a1_0 a1_1 l1_2 l1_3 a1_4 a1_5 a1_6 a1_7 a1_8 a1_9 a1_10 a1_11 a1_12 l1_13 a1_14 a1_15 a1_16 l1_17 a1_18 a1_19) else (spec_l5Shown.j2 kj10 (a0_18 != a1_18) a0_0 a0_1 l0_2 l0_3 a0_4 a0_5 a0_6 a0_7 a0_8 a0_9 a0_10 a0_11 a0_12 l0_13 a0_14 a0_15 a0_16 l0_17 a0_18 a0_19 a1_0 a1_1 l1_2 l1_3 a1_4 a1_5 a1_6 a1_7 a1_8 a1_9 a1_10 a1_11 a1_12 l1_13 a1_14 a1_15 a1_16 l1_17 a1_18 a1_19)))) = some r := by rw [if_neg (show ¬ (false = true) by decide)] at H; exact H
       clear H
       have H := H1
       clear H1
       have HC24 := Aside0.mk H
       clear H
       go_upto_region 5 with (fail)
       go_cut [148] (fun v148 wc => ∃ (kq : Nat) (x148_23 : Bool), v148 = .bool x148_23 ∧ Aside0 (spec_l5Shown.j2 kq x148_23 a0_0 a0_1 l0_2 l0_3 a0_4 a0_5 a0_6 a0_7 a0_8 a0_9 a0_10 a0_11 a0_12 l0_13 a0_14 a0_15 a0_16 l0_17 a0_18 a0_19 a1_0 a1_1 l1_2 l1_3 a1_4 a1_5 a1_6 a1_7 a1_8 a1_9 a1_10 a1_11 a1_12 l1_13 a1_14 a1_15 a1_16 l1_17 a1_18 a1_19 = some r) ∧ Aside0 (kq ≤ kj10) ∧ Aside0 (wc.heap[gp0]? = some (.cells #[P0_0, P0_1, P0_2, P0_3, P0_4, P0_5, P0_6, .int .i64 a0_0, .int .i64 a0_1, .slice A0_2 l0_2.length c0_2, .slice A0_3 l0_3.length c0_3, .int .i64 a0_4, .int .i64 a0_5, .bool a0_6, .int .i64 a0_7, .int .i64 a0_8, .int .i64 a0_9, .bool a0_10, .bool a0_11, .bool a0_12, .slice A0_13 l0_13.length c0_13, .int .i64 a0_14, .int .i64 a0_15, .int .i64 a0_16, .slice A0_17 l0_17.length c0_17, .int .i64 a0_18, .int .i64 a0_19] 45 (0, 0))) ∧ Aside0 (wc.heap[gp1]? = some (.cells #[P1_0, P1_1, P1_2, P1_3, P1_4, P1_5, P1_6, .int .i64 a1_0, .int .i64 a1_1, .slice A1_2 l1_2.length c1_2, .slice A1_3 l1_3.length c1_3, .int .i64 a1_4, .int .i64 a1_5, .bool a1_6, .int .i64 a1_7, .int .i64 a1_8, .int .i64 a1_9, .bool a1_10, .bool a1_11, .bool a1_12, .slice A1_13 l1_13.length c1_13, .int .i64 a1_14, .int .i64 a1_15, .int .i64 a1_16, .slice A1_17 l1_17.length c1_17, .int .i64 a1_18, .int .i64 a1_19] 45 (0, 0))) ∧ Aside0 (Below w.heap.size w wc))
       case first =>
        have H := HC24.out
        clear HC24
        by_cases c25 : (a0_10 != a1_10) = true
        ·rw [if_pos c25] at H
         have c25b0 : (a0_10 != a1_10) = true := c25
         (try (have c25b1 : decide (a0_10 = a1_10) = false := by simpa using c25))
         (try (have c25b2 : (a0_10 == a1_10) = false := by simpa using c25))
         (try (have c25b3 : ¬ (a0_10 = a1_10) := by simpa using c25))
         clear c25
         (first | rw [c25b0] | (simp only [i64_w, i32_w]; rw [c25b0]) | skip)
         have H' := Aside0.mk H
         clear H
         try go_wp2
         have n0_ := Aside0.mk (blk_drew BK50.out)
         have n1_ := Aside0.mk (blk_drew BK51.out)
         have n2_ := Aside0.mk (below_drew1 HB.out)
         clear BK50
         clear BK51
         clear HB
         have BK50 := n0_
         have BK51 := n1_
         have HB := n2_
         clear n0_ n1_ n2_
         as_aux_lemma =>
         refine st2 BK50.out BK51.out (bA 42 0) (by kernel_rfl) rfl rfl (fun hHeld => ?_); refine with_tabW spec_l5Shown.tab5 spec_l5Shown.bits5 (fun HT_ HW_ => ?_)
         generalize wc.drew = w26 at BK50 BK51 HB hHeld ⊢
         refine pu 0 107 (bA 42 1) HT_ ?_
         refine pu 1 108 (bA 42 3) HT_ ?_
         refine pu 2 109 (bA 42 7) HT_ ?_
         refine pu 4 111 (bA 42 23) HT_ ?_
         refine pu 5 112 (bA 42 55) HT_ ?_
         refine pu 6 113 (bA 42 119) HT_ ?_
         refine tb 3 110 (bA 42 127) HT_ HW_ hHeld ?_
         refine tb 7 114 (bA 42 255) HT_ HW_ hHeld ?_
         refine pu 8 115 (bA 42 511) HT_ ?_
         refine pu 9 116 (bA 42 1023) HT_ ?_
         refine pn 10 117 (bA 42 2047) HT_ ?_
         refine pn 11 118 (bA 42 4095) HT_ ?_
         refine pn 12 119 (bA 42 8191) HT_ ?_
         refine pn 13 120 (bA 42 16383) HT_ ?_
         refine pn 14 121 (bA 42 32767) HT_ ?_
         refine pn 15 122 (bA 42 65535) HT_ ?_
         refine pn 16 123 (bA 42 131071) HT_ ?_
         refine pn 17 124 (bA 42 262143) HT_ ?_
         refine pn 18 125 (bA 42 524287) HT_ ?_
         refine pu 19 126 (bA 42 1048575) HT_ ?_
         refine pu 20 127 (bA 42 2097151) HT_ ?_
         refine pn 21 128 (bA 42 4194303) HT_ ?_
         refine pn 22 129 (bA 42 8388607) HT_ ?_
         refine pn 23 130 (bA 42 16777215) HT_ ?_
         refine pn 24 131 (bA 42 33554431) HT_ ?_
         refine pn 25 132 (bA 42 67108863) HT_ ?_
         refine pn 26 133 (bA 42 134217727) HT_ ?_
         refine pn 27 134 (bA 42 268435455) HT_ ?_
         refine pn 28 135 (bA 42 536870911) HT_ ?_
         refine pn 29 136 (bA 42 1073741823) HT_ ?_
         refine pu 30 137 (bA 42 2147483647) HT_ ?_
         refine pu 31 138 (bA 42 4294967295) HT_ ?_
         refine pn 32 139 (bA 42 8589934591) HT_ ?_
         refine pn 33 140 (bA 42 17179869183) HT_ ?_
         refine pn 34 141 (bA 42 34359738367) HT_ ?_
         refine pn 35 142 (bA 42 68719476735) HT_ ?_
         refine pn 36 143 (bA 42 137438953471) HT_ ?_
         refine pn 37 144 (bA 42 274877906943) HT_ ?_
         refine pn 38 145 (bA 42 549755813887) HT_ ?_
         refine pn 39 146 (bA 42 1099511627775) HT_ ?_
         refine pn 40 147 (bA 42 2199023255551) HT_ ?_
         refine pu 41 148 (bA 42 4398046511103) HT_ ?_
         refine done_ (done_of HT_.out (by kernel_rfl)) ?_
         try go_wp2
         go_meet
         case rel => exact ⟨_, (true), (by first | rfl | (simp; done) | (simp [*]; done)), H', ⟨by have := HJ2.out; have := HJ10.out; first | omega | exact Nat.le_refl _⟩, ⟨pl BK50.out⟩, ⟨pl BK51.out⟩, ⟨be HB.out⟩⟩
        ·rw [if_neg c25] at H
         have c25b0 : (a0_10 != a1_10) = false := by simpa using c25
         (try (have c25b1 : decide (a0_10 = a1_10) = true := by simpa using c25))
         (try (have c25b2 : (a0_10 == a1_10) = true := by simpa using c25))
         clear c25
         (first | rw [c25b0] | (simp only [i64_w, i32_w]; rw [c25b0]) | skip)
         by_cases c27 : (a0_11 != a1_11) = true
         ·rw [if_pos c27] at H
          have c27b0 : (a0_11 != a1_11) = true := c27
          (try (have c27b1 : decide (a0_11 = a1_11) = false := by simpa using c27))
          (try (have c27b2 : (a0_11 == a1_11) = false := by simpa using c27))
          (try (have c27b3 : ¬ (a0_11 = a1_11) := by simpa using c27))
          clear c27
          have H' := Aside0.mk H
          clear H
          try go_wp2
          have n0_ := Aside0.mk (blk_drew BK50.out)
          have n1_ := Aside0.mk (blk_drew BK51.out)
          have n2_ := Aside0.mk (below_drew1 HB.out)
          clear BK50
          clear BK51
          clear HB
          have BK50 := n0_
          have BK51 := n1_
          have HB := n2_
          clear n0_ n1_ n2_
          as_aux_lemma =>
          refine st2 BK50.out BK51.out (bA 42 0) (by kernel_rfl) rfl rfl (fun hHeld => ?_); refine with_tabW spec_l5Shown.tab5 spec_l5Shown.bits5 (fun HT_ HW_ => ?_)
          generalize wc.drew = w28 at BK50 BK51 HB hHeld ⊢
          refine pu 0 107 (bA 42 1) HT_ ?_
          refine pu 1 108 (bA 42 3) HT_ ?_
          refine pu 2 109 (bA 42 7) HT_ ?_
          refine pu 4 111 (bA 42 23) HT_ ?_
          refine pu 5 112 (bA 42 55) HT_ ?_
          refine pu 6 113 (bA 42 119) HT_ ?_
          refine tb 3 110 (bA 42 127) HT_ HW_ hHeld ?_
          refine tb 7 114 (bA 42 255) HT_ HW_ hHeld ?_
          refine pu 8 115 (bA 42 511) HT_ ?_
          refine pu 9 116 (bA 42 1023) HT_ ?_
          refine pu 10 117 (bA 42 2047) HT_ ?_
          refine pu 11 118 (bA 42 4095) HT_ ?_
          refine pu 12 119 (bA 42 8191) HT_ ?_
          refine pu 14 121 (bA 42 24575) HT_ ?_
          refine pu 15 122 (bA 42 57343) HT_ ?_
          refine pu 16 123 (bA 42 122879) HT_ ?_
          refine tb 13 120 (bA 42 131071) HT_ HW_ hHeld ?_
          refine tb 17 124 (bA 42 262143) HT_ HW_ hHeld ?_
          refine pu 18 125 (bA 42 524287) HT_ ?_
          refine pu 19 126 (bA 42 1048575) HT_ ?_
          refine pu 20 127 (bA 42 2097151) HT_ ?_
          refine pn 21 128 (bA 42 4194303) HT_ ?_
          refine pn 22 129 (bA 42 8388607) HT_ ?_
          refine pn 23 130 (bA 42 16777215) HT_ ?_
          refine pn 24 131 (bA 42 33554431) HT_ ?_
          refine pn 25 132 (bA 42 67108863) HT_ ?_
          refine pn 26 133 (bA 42 134217727) HT_ ?_
          refine pn 27 134 (bA 42 268435455) HT_ ?_
          refine pn 28 135 (bA 42 536870911) HT_ ?_
          refine pn 29 136 (bA 42 1073741823) HT_ ?_
          refine pu 30 137 (bA 42 2147483647) HT_ ?_
          refine pu 31 138 (bA 42 4294967295) HT_ ?_
          refine pn 32 139 (bA 42 8589934591) HT_ ?_
          refine pn 33 140 (bA 42 17179869183) HT_ ?_
          refine pn 34 141 (bA 42 34359738367) HT_ ?_
          refine pn 35 142 (bA 42 68719476735) HT_ ?_
          refine pn 36 143 (bA 42 137438953471) HT_ ?_
          refine pn 37 144 (bA 42 274877906943) HT_ ?_
          refine pn 38 145 (bA 42 549755813887) HT_ ?_
          refine pn 39 146 (bA 42 1099511627775) HT_ ?_
          refine pn 40 147 (bA 42 2199023255551) HT_ ?_
          refine pu 41 148 (bA 42 4398046511103) HT_ ?_
          refine done_ (done_of HT_.out (by kernel_rfl)) ?_
          try go_wp2
          go_meet
          case rel => exact ⟨_, (true), (by first | rfl | (simp; done) | (simp [*]; done)), H', ⟨by have := HJ2.out; have := HJ10.out; first | omega | exact Nat.le_refl _⟩, ⟨pl BK50.out⟩, ⟨pl BK51.out⟩, ⟨be HB.out⟩⟩
         ·rw [if_neg c27] at H
          have c27b0 : (a0_11 != a1_11) = false := by simpa using c27
          (try (have c27b1 : decide (a0_11 = a1_11) = true := by simpa using c27))
          (try (have c27b2 : (a0_11 == a1_11) = true := by simpa using c27))
          clear c27
          by_cases c29 : (a0_12 != a1_12) = true
          ·rw [if_pos c29] at H
           have c29b0 : (a0_12 != a1_12) = true := c29
           (try (have c29b1 : decide (a0_12 = a1_12) = false := by simpa using c29))
           (try (have c29b2 : (a0_12 == a1_12) = false := by simpa using c29))
           (try (have c29b3 : ¬ (a0_12 = a1_12) := by simpa using c29))
           clear c29
           have H' := Aside0.mk H
           clear H
           try go_wp2
           have n0_ := Aside0.mk (blk_drew BK50.out)
           have n1_ := Aside0.mk (blk_drew BK51.out)
           have n2_ := Aside0.mk (below_drew1 HB.out)
           clear BK50
           clear BK51
           clear HB
           have BK50 := n0_
           have BK51 := n1_
           have HB := n2_
           clear n0_ n1_ n2_
           as_aux_lemma =>
           refine st2 BK50.out BK51.out (bA 42 0) (by kernel_rfl) rfl rfl (fun hHeld => ?_); refine with_tabW spec_l5Shown.tab5 spec_l5Shown.bits5 (fun HT_ HW_ => ?_)
           generalize wc.drew = w30 at BK50 BK51 HB hHeld ⊢
           refine pu 0 107 (bA 42 1) HT_ ?_
           refine pu 1 108 (bA 42 3) HT_ ?_
           refine pu 2 109 (bA 42 7) HT_ ?_
           refine pu 4 111 (bA 42 23) HT_ ?_
           refine pu 5 112 (bA 42 55) HT_ ?_
           refine pu 6 113 (bA 42 119) HT_ ?_
           refine tb 3 110 (bA 42 127) HT_ HW_ hHeld ?_
           refine tb 7 114 (bA 42 255) HT_ HW_ hHeld ?_
           refine pu 8 115 (bA 42 511) HT_ ?_
           refine pu 9 116 (bA 42 1023) HT_ ?_
           refine pu 10 117 (bA 42 2047) HT_ ?_
           refine pu 11 118 (bA 42 4095) HT_ ?_
           refine pu 12 119 (bA 42 8191) HT_ ?_
           refine pu 14 121 (bA 42 24575) HT_ ?_
           refine pu 15 122 (bA 42 57343) HT_ ?_
           refine pu 16 123 (bA 42 122879) HT_ ?_
           refine tb 13 120 (bA 42 131071) HT_ HW_ hHeld ?_
           refine tb 17 124 (bA 42 262143) HT_ HW_ hHeld ?_
           refine pu 18 125 (bA 42 524287) HT_ ?_
           refine pu 19 126 (bA 42 1048575) HT_ ?_
           refine pu 20 127 (bA 42 2097151) HT_ ?_
           refine pu 21 128 (bA 42 4194303) HT_ ?_
           refine pu 22 129 (bA 42 8388607) HT_ ?_
           refine pu 23 130 (bA 42 16777215) HT_ ?_
           refine pu 25 132 (bA 42 50331647) HT_ ?_
           refine pu 26 133 (bA 42 117440511) HT_ ?_
           refine pu 27 134 (bA 42 251658239) HT_ ?_
           refine tb 24 131 (bA 42 268435455) HT_ HW_ hHeld ?_
           refine tb 28 135 (bA 42 536870911) HT_ HW_ hHeld ?_
           refine pu 29 136 (bA 42 1073741823) HT_ ?_
           refine pu 30 137 (bA 42 2147483647) HT_ ?_
           refine pu 31 138 (bA 42 4294967295) HT_ ?_
           refine pn 32 139 (bA 42 8589934591) HT_ ?_
           refine pn 33 140 (bA 42 17179869183) HT_ ?_
           refine pn 34 141 (bA 42 34359738367) HT_ ?_
           refine pn 35 142 (bA 42 68719476735) HT_ ?_
           refine pn 36 143 (bA 42 137438953471) HT_ ?_
           refine pn 37 144 (bA 42 274877906943) HT_ ?_
           refine pn 38 145 (bA 42 549755813887) HT_ ?_
           refine pn 39 146 (bA 42 1099511627775) HT_ ?_
           refine pn 40 147 (bA 42 2199023255551) HT_ ?_
           refine pu 41 148 (bA 42 4398046511103) HT_ ?_
           refine done_ (done_of HT_.out (by kernel_rfl)) ?_
           try go_wp2
           go_meet
           case rel => exact ⟨_, (true), (by first | rfl | (simp; done) | (simp [*]; done)), H', ⟨by have := HJ2.out; have := HJ10.out; first | omega | exact Nat.le_refl _⟩, ⟨pl BK50.out⟩, ⟨pl BK51.out⟩, ⟨be HB.out⟩⟩
          ·rw [if_neg c29] at H
           have c29b0 : (a0_12 != a1_12) = false := by simpa using c29
           (try (have c29b1 : decide (a0_12 = a1_12) = true := by simpa using c29))
           (try (have c29b2 : (a0_12 == a1_12) = true := by simpa using c29))
           clear c29
           have H' := Aside0.mk H
           clear H
           try go_wp2
           have n0_ := Aside0.mk (blk_drew BK50.out)
           have n1_ := Aside0.mk (blk_drew BK51.out)
           have n2_ := Aside0.mk (below_drew1 HB.out)
           clear BK50
           clear BK51
           clear HB
           have BK50 := n0_
           have BK51 := n1_
           have HB := n2_
           clear n0_ n1_ n2_
           as_aux_lemma =>
           refine st2 BK50.out BK51.out (bA 42 0) (by kernel_rfl) rfl rfl (fun hHeld => ?_); refine with_tabW spec_l5Shown.tab5 spec_l5Shown.bits5 (fun HT_ HW_ => ?_)
           generalize wc.drew = w31 at BK50 BK51 HB hHeld ⊢
           refine pu 0 107 (bA 42 1) HT_ ?_
           refine pu 1 108 (bA 42 3) HT_ ?_
           refine pu 2 109 (bA 42 7) HT_ ?_
           refine pu 4 111 (bA 42 23) HT_ ?_
           refine pu 5 112 (bA 42 55) HT_ ?_
           refine pu 6 113 (bA 42 119) HT_ ?_
           refine tb 3 110 (bA 42 127) HT_ HW_ hHeld ?_
           refine tb 7 114 (bA 42 255) HT_ HW_ hHeld ?_
           refine pu 8 115 (bA 42 511) HT_ ?_
           refine pu 9 116 (bA 42 1023) HT_ ?_
           refine pu 10 117 (bA 42 2047) HT_ ?_
           refine pu 11 118 (bA 42 4095) HT_ ?_
           refine pu 12 119 (bA 42 8191) HT_ ?_
           refine pu 14 121 (bA 42 24575) HT_ ?_
           refine pu 15 122 (bA 42 57343) HT_ ?_
           refine pu 16 123 (bA 42 122879) HT_ ?_
           refine tb 13 120 (bA 42 131071) HT_ HW_ hHeld ?_
           refine tb 17 124 (bA 42 262143) HT_ HW_ hHeld ?_
           refine pu 18 125 (bA 42 524287) HT_ ?_
           refine pu 19 126 (bA 42 1048575) HT_ ?_
           refine pu 20 127 (bA 42 2097151) HT_ ?_
           refine pu 21 128 (bA 42 4194303) HT_ ?_
           refine pu 22 129 (bA 42 8388607) HT_ ?_
           refine pu 23 130 (bA 42 16777215) HT_ ?_
           refine pu 25 132 (bA 42 50331647) HT_ ?_
           refine pu 26 133 (bA 42 117440511) HT_ ?_
           refine pu 27 134 (bA 42 251658239) HT_ ?_
           refine tb 24 131 (bA 42 268435455) HT_ HW_ hHeld ?_
           refine tb 28 135 (bA 42 536870911) HT_ HW_ hHeld ?_
           refine pu 29 136 (bA 42 1073741823) HT_ ?_
           refine pu 30 137 (bA 42 2147483647) HT_ ?_
           refine pu 31 138 (bA 42 4294967295) HT_ ?_
           refine pu 32 139 (bA 42 8589934591) HT_ ?_
           refine pu 33 140 (bA 42 17179869183) HT_ ?_
           refine pu 34 141 (bA 42 34359738367) HT_ ?_
           refine pu 36 143 (bA 42 103079215103) HT_ ?_
           refine pu 37 144 (bA 42 240518168575) HT_ ?_
           refine pu 38 145 (bA 42 515396075519) HT_ ?_
           refine tb 35 142 (bA 42 549755813887) HT_ HW_ hHeld ?_
           refine tb 39 146 (bA 42 1099511627775) HT_ HW_ hHeld ?_
           refine pu 40 147 (bA 42 2199023255551) HT_ ?_
           refine pu 41 148 (bA 42 4398046511103) HT_ ?_
           refine done_ (done_of HT_.out (by kernel_rfl)) ?_
           try go_wp2
           go_meet
           case rel => exact ⟨_, ((a0_18 != a1_18)), (by first | rfl | (simp; done) | (simp [*]; done)), H', ⟨by have := HJ2.out; have := HJ10.out; first | omega | exact Nat.le_refl _⟩, ⟨pl BK50.out⟩, ⟨pl BK51.out⟩, ⟨be HB.out⟩⟩
       case rest =>
        clear HC24
        try clear c1
        try clear p1
        try clear c2
        try clear p2
        try clear c29
        try clear c29b0
        try clear c29b1
        try clear c29b2
        obtain ⟨kq, x148_23, rfl, HA, HJ23, BK50, BK51, HB⟩ := hcut
        cases kq with
        | zero => exact absurd HA.out (by simp [spec_l5Shown.j2])
        | succ kj23 =>
         have H := HA.out
         clear HA
         simp only [spec_l5Shown.j2] at H
         by_cases c32 : x148_23 = true
         ·subst c32
          have H1 : (some false) = some r := by rw [if_pos rfl] at H; exact H
          clear H
          have H := H1
          clear H1
          obtain rfl := Option.some.inj H
          go_wp2
          go_ret
          exact ⟨by first | rfl | (simp [errW_none, errW_some] <;> rfl) | (simp [*, errW_none, errW_some] <;> rfl), by repeat (first | (with_reducible first | exact HB.out | apply below_alloc | apply pw_below_drewN | apply below_drew1 | refine below_set ?_ GE50.out | refine below_set ?_ GE51.out) | exact HB.out)⟩
         ·replace c32 := Bool.eq_false_iff.mpr c32
          subst c32
          have H1 : ((spec_l5Bools.f kj23 l0_13 l1_13).bind fun t121 => (if t121 = true then ((spec_l4Ints.f kj23 l0_17 l1_17).bind fun t122 => (some t122)) else (some false))) = some r := by rw [if_neg (show ¬ (false = true) by decide)] at H; exact H
          clear H
          have H := H1
          clear H1
          replace H := Option.bind_eq_some_iff.mp H
          obtain ⟨t121, A330, H⟩ := H
          replace H : (if t121 = true then ((spec_l4Ints.f kj23 l0_17 l1_17).bind fun t122 => (some t122)) else (some false)) = some r := H
          have A33 := Aside0.mk A330
          clear A330
          by_cases c34 : t121 = true
          ·subst c34
           have H1 : ((spec_l4Ints.f kj23 l0_17 l1_17).bind fun t122 => (some t122)) = some r := by rw [if_pos rfl] at H; exact H
           clear H
           have H := H1
           clear H1
           replace H := Option.bind_eq_some_iff.mp H
           obtain ⟨t122, A350, H⟩ := H
           replace H : (some t122) = some r := H
           have A35 := Aside0.mk A350
           clear A350
           obtain rfl := Option.some.inj H
           try go_wp2
           have n0_ := Aside0.mk (blk_drew BK50.out)
           have n1_ := Aside0.mk (blk_drew BK51.out)
           have n2_ := Aside0.mk (below_drew1 HB.out)
           clear BK50
           clear BK51
           clear HB
           have BK50 := n0_
           have BK51 := n1_
           have HB := n2_
           clear n0_ n1_ n2_
           as_aux_lemma =>
           refine st2 BK50.out BK51.out (bA 21 0) (by kernel_rfl) rfl rfl (fun hHeld => ?_); refine with_tabW spec_l5Shown.tab7 spec_l5Shown.bits7 (fun HT_ HW_ => ?_)
           generalize wc.drew = w36 at BK50 BK51 HB hHeld ⊢
           refine pu 0 149 (bA 21 1) HT_ ?_
           refine pu 1 150 (bA 21 3) HT_ ?_
           refine pu 2 151 (bA 21 7) HT_ ?_
           refine pu 4 153 (bA 21 23) HT_ ?_
           refine pu 5 154 (bA 21 55) HT_ ?_
           refine pu 6 155 (bA 21 119) HT_ ?_
           refine tb 3 152 (bA 21 127) HT_ HW_ hHeld ?_
           refine tb 7 156 (bA 21 255) HT_ HW_ hHeld ?_
           refine one_ (i := 8) (N := some 157) (bA 21 511) rfl rfl (one_of HT_.out (by kernel_rfl)) (by decide) (fun K hK => ?_)
           refine goes_ Try.func37 (by kernel_rfl) rfl #[.slice A0_13 l0_13.length c0_13, .slice A1_13 l1_13.length c1_13] (by rfl) rfl rfl (by (try simp only [List.map_toArray, List.map_cons, List.map_nil]); first | done | rfl | (simp only [List.length_drop, List.length_take]; rfl)) ?_
           with_reducible refine (spec_l5Bools.calls kj23 _ _ l0_13 _ _ l1_13 true _ ?side1 ?side2 ?side3 ?side4 A33.out).mono ?_
           (case side1 => exact kc HR0_13.out HB.out)
           (case side2 => exact HC0_13.out)
           (case side3 => exact kc HR1_13.out HB.out)
           (case side4 => exact HC1_13.out)
           rintro e w' ⟨rfl, ⟨nd, rfl⟩⟩
           refine ⟨_, rfl, ?_⟩
           refine hK.out _ _ ⟨BK50.out, BK51.out⟩ (fun hHeld => ?_)
           clear hK K
           refine norm_ (a' := ?_) ?_ ?_
           rotate_left
           ·show Act.put _ (some 157) _ = _
            simp only [Act.put, List.setIfInBounds_toArray, List.set_cons_zero, List.set_cons_succ, i64_w, i32_w]
            rfl
           refine pu 9 158 (bA 21 1023) HT_ ?_
           refine pu 10 159 (bA 21 2047) HT_ ?_
           refine pu 11 160 (bA 21 4095) HT_ ?_
           refine pu 12 161 (bA 21 8191) HT_ ?_
           refine pu 14 163 (bA 21 24575) HT_ ?_
           refine pu 15 164 (bA 21 57343) HT_ ?_
           refine pu 16 165 (bA 21 122879) HT_ ?_
           refine tb 13 162 (bA 21 131071) HT_ HW_ hHeld ?_
           refine tb 17 166 (bA 21 262143) HT_ HW_ hHeld ?_
           refine one_ (i := 18) (N := some 167) (bA 21 524287) rfl rfl (one_of HT_.out (by kernel_rfl)) (by decide) (fun K hK => ?_)
           refine goes_ Try.func36 (by kernel_rfl) rfl #[.slice A0_17 l0_17.length c0_17, .slice A1_17 l1_17.length c1_17] (by rfl) rfl rfl (by (try simp only [List.map_toArray, List.map_cons, List.map_nil]); first | done | rfl | (simp only [List.length_drop, List.length_take]; rfl)) ?_
           with_reducible refine (spec_l4Ints.calls kj23 _ _ l0_17 _ _ l1_17 t122 _ ?side1 ?side2 ?side3 ?side4 A35.out).mono ?_
           (case side1 => repeat (first | exact (Kd.C_below HR0_17.out (be HB.out)) | (with_reducible refine Kd.C_alloc ?_ _) | (with_reducible refine Kd.C_drewN ?_ _) | (with_reducible refine Kd.C_drew ?_)))
           (case side2 => exact HC0_17.out)
           (case side3 => repeat (first | exact (Kd.C_below HR1_17.out (be HB.out)) | (with_reducible refine Kd.C_alloc ?_ _) | (with_reducible refine Kd.C_drewN ?_ _) | (with_reducible refine Kd.C_drew ?_)))
           (case side4 => exact HC1_17.out)
           rintro e w' ⟨rfl, ⟨nd, rfl⟩⟩
           refine ⟨_, rfl, ?_⟩
           refine hK.out _ _ ⟨BK50.out, BK51.out⟩ (fun hHeld => ?_)
           clear hK K
           refine norm_ (a' := ?_) ?_ ?_
           rotate_left
           ·show Act.put _ (some 167) _ = _
            simp only [Act.put, List.setIfInBounds_toArray, List.set_cons_zero, List.set_cons_succ, i64_w, i32_w]
            rfl
           refine pu 19 168 (bA 21 1048575) HT_ ?_
           refine pu 20 4 (bA 21 2097151) HT_ ?_
           refine done_ (done_of HT_.out (by kernel_rfl)) ?_
           try go_wp2
           go_ret
           exact ⟨by first | rfl | (simp [errW_none, errW_some] <;> rfl) | (simp [*, errW_none, errW_some] <;> rfl), by repeat (first | (with_reducible first | exact HB.out | apply below_alloc | apply pw_below_drewN | apply below_drew1 | refine below_set ?_ GE50.out | refine below_set ?_ GE51.out) | exact HB.out)⟩
          ·replace c34 := Bool.eq_false_iff.mpr c34
           subst c34
           have H1 : (some false) = some r := by rw [if_neg (show ¬ (false = true) by decide)] at H; exact H
           clear H
           have H := H1
           clear H1
           obtain rfl := Option.some.inj H
           try go_wp2
           have n0_ := Aside0.mk (blk_drew BK50.out)
           have n1_ := Aside0.mk (blk_drew BK51.out)
           have n2_ := Aside0.mk (below_drew1 HB.out)
           clear BK50
           clear BK51
           clear HB
           have BK50 := n0_
           have BK51 := n1_
           have HB := n2_
           clear n0_ n1_ n2_
           as_aux_lemma =>
           refine st2 BK50.out BK51.out (bA 21 0) (by kernel_rfl) rfl rfl (fun hHeld => ?_); refine with_tabW spec_l5Shown.tab7 spec_l5Shown.bits7 (fun HT_ HW_ => ?_)
           generalize wc.drew = w37 at BK50 BK51 HB hHeld ⊢
           refine pu 0 149 (bA 21 1) HT_ ?_
           refine pu 1 150 (bA 21 3) HT_ ?_
           refine pu 2 151 (bA 21 7) HT_ ?_
           refine pu 4 153 (bA 21 23) HT_ ?_
           refine pu 5 154 (bA 21 55) HT_ ?_
           refine pu 6 155 (bA 21 119) HT_ ?_
           refine tb 3 152 (bA 21 127) HT_ HW_ hHeld ?_
           refine tb 7 156 (bA 21 255) HT_ HW_ hHeld ?_
           refine one_ (i := 8) (N := some 157) (bA 21 511) rfl rfl (one_of HT_.out (by kernel_rfl)) (by decide) (fun K hK => ?_)
           refine goes_ Try.func37 (by kernel_rfl) rfl #[.slice A0_13 l0_13.length c0_13, .slice A1_13 l1_13.length c1_13] (by rfl) rfl rfl (by (try simp only [List.map_toArray, List.map_cons, List.map_nil]); first | done | rfl | (simp only [List.length_drop, List.length_take]; rfl)) ?_
           with_reducible refine (spec_l5Bools.calls kj23 _ _ l0_13 _ _ l1_13 false _ ?side1 ?side2 ?side3 ?side4 A33.out).mono ?_
           (case side1 => exact kc HR0_13.out HB.out)
           (case side2 => exact HC0_13.out)
           (case side3 => exact kc HR1_13.out HB.out)
           (case side4 => exact HC1_13.out)
           rintro e w' ⟨rfl, ⟨nd, rfl⟩⟩
           refine ⟨_, rfl, ?_⟩
           refine hK.out _ _ ⟨BK50.out, BK51.out⟩ (fun hHeld => ?_)
           clear hK K
           refine norm_ (a' := ?_) ?_ ?_
           rotate_left
           ·show Act.put _ (some 157) _ = _
            simp only [Act.put, List.setIfInBounds_toArray, List.set_cons_zero, List.set_cons_succ, i64_w, i32_w]
            rfl
           refine pu 9 158 (bA 21 1023) HT_ ?_
           refine pn 10 159 (bA 21 2047) HT_ ?_
           refine pn 11 160 (bA 21 4095) HT_ ?_
           refine pn 12 161 (bA 21 8191) HT_ ?_
           refine pn 13 162 (bA 21 16383) HT_ ?_
           refine pn 14 163 (bA 21 32767) HT_ ?_
           refine pn 15 164 (bA 21 65535) HT_ ?_
           refine pn 16 165 (bA 21 131071) HT_ ?_
           refine pn 17 166 (bA 21 262143) HT_ ?_
           refine pn 18 167 (bA 21 524287) HT_ ?_
           refine pu 19 168 (bA 21 1048575) HT_ ?_
           refine pu 20 4 (bA 21 2097151) HT_ ?_
           refine done_ (done_of HT_.out (by kernel_rfl)) ?_
           try go_wp2
           go_ret
           exact ⟨by first | rfl | (simp [errW_none, errW_some] <;> rfl) | (simp [*, errW_none, errW_some] <;> rfl), by repeat (first | (with_reducible first | exact HB.out | apply below_alloc | apply pw_below_drewN | apply below_drew1 | refine below_set ?_ GE50.out | refine below_set ?_ GE51.out) | exact HB.out)⟩

end Go.Proofs.Ytckgkblpbfckdaa.PFnExactSameVts
