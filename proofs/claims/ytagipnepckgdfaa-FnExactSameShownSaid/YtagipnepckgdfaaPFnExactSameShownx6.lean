-- Written for this claim by a program of this session's (wip/p2.sh).
import Derived.Test.YtagipnepckgdfaaPFnExactSameShownx0
import Derived.Test.YtagipnepckgdfaaQeShort
import Derived.Test.YtagipnepckgdfaaPFnExactSameShownx4
import Derived.Test.YtagipnepckgdfaaPFnExactSameShownx5
namespace Go.Proofs.Ytagipnepckgdfaa.PFnExactSameShown
open Go.RowKit Go.Proofs.YtagipnepckgdfaaW.PrintWords Go.Proofs.YtagipnepckgdfaaW.PrintLast Go.Proofs.YtagipnepckgdfaaW.PrintMore Go.Proofs.YtagipnepckgdfaaShort
attribute [local go_sem] max2_int min2_int max_two min_two max_three min_three max_four min_four   -- for this text's walks alone
set_option linter.unusedVariables false
set_option linter.unusedSimpArgs false

/-! ### impl_SameShown: function 40 -/
mutual
def impl_SameShown.j0 : Nat → Bool → Int → Int → List (S107) → Int → Int → Bool → Int → Int → Int → Bool → Bool → Bool → List Bool → Int → Int → Int → List Int → Int → Int → Int → Int → List (S107) → Int → Int → Bool → Int → Int → Int → Bool → Bool → Bool → List Bool → Int → Int → Int → List Int → Int → Int → Option (Bool)
 | 0, _, _, _, _, _, _, _, _, _, _, _, _, _, _, _, _, _, _, _, _, _, _, _, _, _, _, _, _, _, _, _, _, _, _, _, _, _, _, _ => none
 | k + 1, x5, x177000, x177001, x177002, x177004, x177005, x177006, x177007, x177008, x177009, x177010, x177011, x177012, x177013, x177014, x177015, x177016, x177017, x177018, x177019, x178000, x178001, x178002, x178004, x178005, x178006, x178007, x178008, x178009, x178010, x178011, x178012, x178013, x178014, x178015, x178016, x178017, x178018, x178019 => if x177004 = x178004 then (if x177005 = x178005 then (if x177007 = x178007 then (if x177008 = x178008 then (if x177009 = x178009 then (impl_SameShown.j1 k x5 (x177018 == x178018) x177000 x177001 x177002 x177004 x177005 x177006 x177007 x177008 x177009 x177010 x177011 x177012 x177013 x177014 x177015 x177016 x177017 x177018 x177019 x178000 x178001 x178002 x178004 x178005 x178006 x178007 x178008 x178009 x178010 x178011 x178012 x178013 x178014 x178015 x178016 x178017 x178018 x178019) else (impl_SameShown.j1 k x5 false x177000 x177001 x177002 x177004 x177005 x177006 x177007 x177008 x177009 x177010 x177011 x177012 x177013 x177014 x177015 x177016 x177017 x177018 x177019 x178000 x178001 x178002 x178004 x178005 x178006 x178007 x178008 x178009 x178010 x178011 x178012 x178013 x178014 x178015 x178016 x178017 x178018 x178019)) else (impl_SameShown.j1 k x5 false x177000 x177001 x177002 x177004 x177005 x177006 x177007 x177008 x177009 x177010 x177011 x177012 x177013 x177014 x177015 x177016 x177017 x177018 x177019 x178000 x178001 x178002 x178004 x178005 x178006 x178007 x178008 x178009 x178010 x178011 x178012 x178013 x178014 x178015 x178016 x178017 x178018 x178019)) else (impl_SameShown.j1 k x5 false x177000 x177001 x177002 x177004 x177005 x177006 x177007 x177008 x177009 x177010 x177011 x177012 x177013 x177014 x177015 x177016 x177017 x177018 x177019 x178000 x178001 x178002 x178004 x178005 x178006 x178007 x178008 x178009 x178010 x178011 x178012 x178013 x178014 x178015 x178016 x178017 x178018 x178019)) else (impl_SameShown.j1 k x5 false x177000 x177001 x177002 x177004 x177005 x177006 x177007 x177008 x177009 x177010 x177011 x177012 x177013 x177014 x177015 x177016 x177017 x177018 x177019 x178000 x178001 x178002 x178004 x178005 x178006 x178007 x178008 x178009 x178010 x178011 x178012 x178013 x178014 x178015 x178016 x178017 x178018 x178019)) else (impl_SameShown.j1 k x5 false x177000 x177001 x177002 x177004 x177005 x177006 x177007 x177008 x177009 x177010 x177011 x177012 x177013 x177014 x177015 x177016 x177017 x177018 x177019 x178000 x178001 x178002 x178004 x178005 x178006 x178007 x178008 x178009 x178010 x178011 x178012 x178013 x178014 x178015 x178016 x178017 x178018 x178019)
def impl_SameShown.j1 : Nat → Bool → Bool → Int → Int → List (S107) → Int → Int → Bool → Int → Int → Int → Bool → Bool → Bool → List Bool → Int → Int → Int → List Int → Int → Int → Int → Int → List (S107) → Int → Int → Bool → Int → Int → Int → Bool → Bool → Bool → List Bool → Int → Int → Int → List Int → Int → Int → Option (Bool)
 | 0, _, _, _, _, _, _, _, _, _, _, _, _, _, _, _, _, _, _, _, _, _, _, _, _, _, _, _, _, _, _, _, _, _, _, _, _, _, _, _, _ => none
 | k + 1, x5, x6, x177000, x177001, x177002, x177004, x177005, x177006, x177007, x177008, x177009, x177010, x177011, x177012, x177013, x177014, x177015, x177016, x177017, x177018, x177019, x178000, x178001, x178002, x178004, x178005, x178006, x178007, x178008, x178009, x178010, x178011, x178012, x178013, x178014, x178015, x178016, x178017, x178018, x178019 => if x5 = true then (if x6 = true then ((impl_SameGrids.f k x177000 x177001 x177002 ([] : List (S107)) x178000 x178001 x178002 ([] : List (S107))).bind fun t178 => (if t178 = true then ((slices_Equal_bool_bool.f k x177013 x178013).bind fun t179 => (if t179 = true then ((slices_Equal_int64_int64.f k x177017 x178017).bind fun t180 => (some t180)) else (some false))) else (some false))) else (some false)) else (some false)
end
def impl_SameShown.f (k : Nat) (a0_0 : Int) (a0_1 : Int) (l0_2 : List (S107)) (l0_3 : List (S107)) (a0_4 : Int) (a0_5 : Int) (a0_6 : Bool) (a0_7 : Int) (a0_8 : Int) (a0_9 : Int) (a0_10 : Bool) (a0_11 : Bool) (a0_12 : Bool) (l0_13 : List Bool) (a0_14 : Int) (a0_15 : Int) (a0_16 : Int) (l0_17 : List Int) (a0_18 : Int) (a0_19 : Int) (a1_0 : Int) (a1_1 : Int) (l1_2 : List (S107)) (l1_3 : List (S107)) (a1_4 : Int) (a1_5 : Int) (a1_6 : Bool) (a1_7 : Int) (a1_8 : Int) (a1_9 : Int) (a1_10 : Bool) (a1_11 : Bool) (a1_12 : Bool) (l1_13 : List Bool) (a1_14 : Int) (a1_15 : Int) (a1_16 : Int) (l1_17 : List Int) (a1_18 : Int) (a1_19 : Int) : Option (Bool) := if (a0_6 == a1_6) = true then (if (a0_10 == a1_10) = true then (if (a0_11 == a1_11) = true then (impl_SameShown.j0 k (a0_12 == a1_12) a0_0 a0_1 l0_2 a0_4 a0_5 a0_6 a0_7 a0_8 a0_9 a0_10 a0_11 a0_12 l0_13 a0_14 a0_15 a0_16 l0_17 a0_18 a0_19 a1_0 a1_1 l1_2 a1_4 a1_5 a1_6 a1_7 a1_8 a1_9 a1_10 a1_11 a1_12 l1_13 a1_14 a1_15 a1_16 l1_17 a1_18 a1_19) else (impl_SameShown.j0 k false a0_0 a0_1 l0_2 a0_4 a0_5 a0_6 a0_7 a0_8 a0_9 a0_10 a0_11 a0_12 l0_13 a0_14 a0_15 a0_16 l0_17 a0_18 a0_19 a1_0 a1_1 l1_2 a1_4 a1_5 a1_6 a1_7 a1_8 a1_9 a1_10 a1_11 a1_12 l1_13 a1_14 a1_15 a1_16 l1_17 a1_18 a1_19)) else (impl_SameShown.j0 k false a0_0 a0_1 l0_2 a0_4 a0_5 a0_6 a0_7 a0_8 a0_9 a0_10 a0_11 a0_12 l0_13 a0_14 a0_15 a0_16 l0_17 a0_18 a0_19 a1_0 a1_1 l1_2 a1_4 a1_5 a1_6 a1_7 a1_8 a1_9 a1_10 a1_11 a1_12 l1_13 a1_14 a1_15 a1_16 l1_17 a1_18 a1_19)) else (impl_SameShown.j0 k false a0_0 a0_1 l0_2 a0_4 a0_5 a0_6 a0_7 a0_8 a0_9 a0_10 a0_11 a0_12 l0_13 a0_14 a0_15 a0_16 l0_17 a0_18 a0_19 a1_0 a1_1 l1_2 a1_4 a1_5 a1_6 a1_7 a1_8 a1_9 a1_10 a1_11 a1_12 l1_13 a1_14 a1_15 a1_16 l1_17 a1_18 a1_19)
theorem impl_SameShown.mono_l : ∀ k, (∀ y0 y1 y2 y3 y4 y5 y6 y7 y8 y9 y10 y11 y12 y13 y14 y15 y16 y17 y18 y19 y20 y21 y22 y23 y24 y25 y26 y27 y28 y29 y30 y31 y32 y33 y34 y35 y36 y37 y38, LeO (impl_SameShown.j0 k y0 y1 y2 y3 y4 y5 y6 y7 y8 y9 y10 y11 y12 y13 y14 y15 y16 y17 y18 y19 y20 y21 y22 y23 y24 y25 y26 y27 y28 y29 y30 y31 y32 y33 y34 y35 y36 y37 y38) (impl_SameShown.j0 (k + 1) y0 y1 y2 y3 y4 y5 y6 y7 y8 y9 y10 y11 y12 y13 y14 y15 y16 y17 y18 y19 y20 y21 y22 y23 y24 y25 y26 y27 y28 y29 y30 y31 y32 y33 y34 y35 y36 y37 y38)) ∧ (∀ y0 y1 y2 y3 y4 y5 y6 y7 y8 y9 y10 y11 y12 y13 y14 y15 y16 y17 y18 y19 y20 y21 y22 y23 y24 y25 y26 y27 y28 y29 y30 y31 y32 y33 y34 y35 y36 y37 y38 y39, LeO (impl_SameShown.j1 k y0 y1 y2 y3 y4 y5 y6 y7 y8 y9 y10 y11 y12 y13 y14 y15 y16 y17 y18 y19 y20 y21 y22 y23 y24 y25 y26 y27 y28 y29 y30 y31 y32 y33 y34 y35 y36 y37 y38 y39) (impl_SameShown.j1 (k + 1) y0 y1 y2 y3 y4 y5 y6 y7 y8 y9 y10 y11 y12 y13 y14 y15 y16 y17 y18 y19 y20 y21 y22 y23 y24 y25 y26 y27 y28 y29 y30 y31 y32 y33 y34 y35 y36 y37 y38 y39))
 | 0 => ⟨fun _ _ _ _ _ _ _ _ _ _ _ _ _ _ _ _ _ _ _ _ _ _ _ _ _ _ _ _ _ _ _ _ _ _ _ _ _ _ _ r h => by simp [impl_SameShown.j0] at h, fun _ _ _ _ _ _ _ _ _ _ _ _ _ _ _ _ _ _ _ _ _ _ _ _ _ _ _ _ _ _ _ _ _ _ _ _ _ _ _ _ r h => by simp [impl_SameShown.j1] at h⟩
 | k + 1 => by
  obtain ⟨ih0, ih1⟩ := impl_SameShown.mono_l k
  refine ⟨?_, ?_⟩
  ·intro y0 y1 y2 y3 y4 y5 y6 y7 y8 y9 y10 y11 y12 y13 y14 y15 y16 y17 y18 y19 y20 y21 y22 y23 y24 y25 y26 y27 y28 y29 y30 y31 y32 y33 y34 y35 y36 y37 y38
   unfold impl_SameShown.j0
   repeat' first
   | (with_reducible exact ih0 _ _ _ _ _ _ _ _ _ _ _ _ _ _ _ _ _ _ _ _ _ _ _ _ _ _ _ _ _ _ _ _ _ _ _ _ _ _ _)
   | (with_reducible exact ih1 _ _ _ _ _ _ _ _ _ _ _ _ _ _ _ _ _ _ _ _ _ _ _ _ _ _ _ _ _ _ _ _ _ _ _ _ _ _ _ _)
   | (with_reducible exact impl_SameGrids.mono _ _ _ _ _ _ _ _ _)
   | (with_reducible exact slices_Equal_bool_bool.mono _ _ _)
   | (with_reducible exact slices_Equal_int64_int64.mono _ _ _)
   | (with_reducible exact LeO.refl _)
   | (with_reducible exact LeO.none _)
   | (with_reducible refine LeO.ite ?_ ?_)
   | (with_reducible refine LeO.bind ?_ (fun _ => ?_))
   | exact ih0 _ _ _ _ _ _ _ _ _ _ _ _ _ _ _ _ _ _ _ _ _ _ _ _ _ _ _ _ _ _ _ _ _ _ _ _ _ _ _
   | exact ih1 _ _ _ _ _ _ _ _ _ _ _ _ _ _ _ _ _ _ _ _ _ _ _ _ _ _ _ _ _ _ _ _ _ _ _ _ _ _ _ _
   | exact impl_SameGrids.mono _ _ _ _ _ _ _ _ _
   | exact slices_Equal_bool_bool.mono _ _ _
   | exact slices_Equal_int64_int64.mono _ _ _
   | exact LeO.none _
   | refine LeO.ite ?_ ?_
   | refine LeO.bind ?_ (fun _ => ?_)
  ·intro y0 y1 y2 y3 y4 y5 y6 y7 y8 y9 y10 y11 y12 y13 y14 y15 y16 y17 y18 y19 y20 y21 y22 y23 y24 y25 y26 y27 y28 y29 y30 y31 y32 y33 y34 y35 y36 y37 y38 y39
   unfold impl_SameShown.j1
   repeat' first
   | (with_reducible exact ih0 _ _ _ _ _ _ _ _ _ _ _ _ _ _ _ _ _ _ _ _ _ _ _ _ _ _ _ _ _ _ _ _ _ _ _ _ _ _ _)
   | (with_reducible exact ih1 _ _ _ _ _ _ _ _ _ _ _ _ _ _ _ _ _ _ _ _ _ _ _ _ _ _ _ _ _ _ _ _ _ _ _ _ _ _ _ _)
   | (with_reducible exact impl_SameGrids.mono _ _ _ _ _ _ _ _ _)
   | (with_reducible exact slices_Equal_bool_bool.mono _ _ _)
   | (with_reducible exact slices_Equal_int64_int64.mono _ _ _)
   | (with_reducible exact LeO.refl _)
   | (with_reducible exact LeO.none _)
   | (with_reducible refine LeO.ite ?_ ?_)
   | (with_reducible refine LeO.bind ?_ (fun _ => ?_))
   | exact ih0 _ _ _ _ _ _ _ _ _ _ _ _ _ _ _ _ _ _ _ _ _ _ _ _ _ _ _ _ _ _ _ _ _ _ _ _ _ _ _
   | exact ih1 _ _ _ _ _ _ _ _ _ _ _ _ _ _ _ _ _ _ _ _ _ _ _ _ _ _ _ _ _ _ _ _ _ _ _ _ _ _ _ _
   | exact impl_SameGrids.mono _ _ _ _ _ _ _ _ _
   | exact slices_Equal_bool_bool.mono _ _ _
   | exact slices_Equal_int64_int64.mono _ _ _
   | exact LeO.none _
   | refine LeO.ite ?_ ?_
   | refine LeO.bind ?_ (fun _ => ?_)
theorem impl_SameShown.mono : ∀ a0 a1 a2 a3 a4 a5 a6 a7 a8 a9 a10 a11 a12 a13 a14 a15 a16 a17 a18 a19 a20 a21 a22 a23 a24 a25 a26 a27 a28 a29 a30 a31 a32 a33 a34 a35 a36 a37 a38 a39 k, LeO (impl_SameShown.f k a0 a1 a2 a3 a4 a5 a6 a7 a8 a9 a10 a11 a12 a13 a14 a15 a16 a17 a18 a19 a20 a21 a22 a23 a24 a25 a26 a27 a28 a29 a30 a31 a32 a33 a34 a35 a36 a37 a38 a39) (impl_SameShown.f (k + 1) a0 a1 a2 a3 a4 a5 a6 a7 a8 a9 a10 a11 a12 a13 a14 a15 a16 a17 a18 a19 a20 a21 a22 a23 a24 a25 a26 a27 a28 a29 a30 a31 a32 a33 a34 a35 a36 a37 a38 a39) := by
 intro a0 a1 a2 a3 a4 a5 a6 a7 a8 a9 a10 a11 a12 a13 a14 a15 a16 a17 a18 a19 a20 a21 a22 a23 a24 a25 a26 a27 a28 a29 a30 a31 a32 a33 a34 a35 a36 a37 a38 a39 k
 obtain ⟨ih0, ih1⟩ := impl_SameShown.mono_l k
 unfold impl_SameShown.f
 repeat' first
   | (with_reducible exact ih0 _ _ _ _ _ _ _ _ _ _ _ _ _ _ _ _ _ _ _ _ _ _ _ _ _ _ _ _ _ _ _ _ _ _ _ _ _ _ _)
   | (with_reducible exact ih1 _ _ _ _ _ _ _ _ _ _ _ _ _ _ _ _ _ _ _ _ _ _ _ _ _ _ _ _ _ _ _ _ _ _ _ _ _ _ _ _)
   | (with_reducible exact impl_SameGrids.mono _ _ _ _ _ _ _ _ _)
   | (with_reducible exact slices_Equal_bool_bool.mono _ _ _)
   | (with_reducible exact slices_Equal_int64_int64.mono _ _ _)
   | (with_reducible exact LeO.refl _)
   | (with_reducible exact LeO.none _)
   | (with_reducible refine LeO.ite ?_ ?_)
   | (with_reducible refine LeO.bind ?_ (fun _ => ?_))
   | exact ih0 _ _ _ _ _ _ _ _ _ _ _ _ _ _ _ _ _ _ _ _ _ _ _ _ _ _ _ _ _ _ _ _ _ _ _ _ _ _ _
   | exact ih1 _ _ _ _ _ _ _ _ _ _ _ _ _ _ _ _ _ _ _ _ _ _ _ _ _ _ _ _ _ _ _ _ _ _ _ _ _ _ _ _
   | exact impl_SameGrids.mono _ _ _ _ _ _ _ _ _
   | exact slices_Equal_bool_bool.mono _ _ _
   | exact slices_Equal_int64_int64.mono _ _ _
   | exact LeO.none _
   | refine LeO.ite ?_ ?_
   | refine LeO.bind ?_ (fun _ => ?_)
set_option maxHeartbeats 8000000 in
set_option maxRecDepth 100000 in
theorem impl_SameShown.calls (k : Nat) (a0_0 : Int) (a0_1 : Int) (A0_2 : Option Addr) (c0_2 : Nat) (l0_2 : List (S107)) (A0_3 : Option Addr) (c0_3 : Nat) (l0_3 : List (S107)) (a0_4 : Int) (a0_5 : Int) (a0_6 : Bool) (a0_7 : Int) (a0_8 : Int) (a0_9 : Int) (a0_10 : Bool) (a0_11 : Bool) (a0_12 : Bool) (A0_13 : Option Addr) (c0_13 : Nat) (l0_13 : List Bool) (a0_14 : Int) (a0_15 : Int) (a0_16 : Int) (A0_17 : Option Addr) (c0_17 : Nat) (l0_17 : List Int) (a0_18 : Int) (a0_19 : Int) (a1_0 : Int) (a1_1 : Int) (A1_2 : Option Addr) (c1_2 : Nat) (l1_2 : List (S107)) (A1_3 : Option Addr) (c1_3 : Nat) (l1_3 : List (S107)) (a1_4 : Int) (a1_5 : Int) (a1_6 : Bool) (a1_7 : Int) (a1_8 : Int) (a1_9 : Int) (a1_10 : Bool) (a1_11 : Bool) (a1_12 : Bool) (A1_13 : Option Addr) (c1_13 : Nat) (l1_13 : List Bool) (a1_14 : Int) (a1_15 : Int) (a1_16 : Int) (A1_17 : Option Addr) (c1_17 : Nat) (l1_17 : List Int) (a1_18 : Int) (a1_19 : Int) (r : Bool) (w : World) (hr0_2 : Kd.C k107 w A0_2 l0_2.length l0_2) (hc0_2 : l0_2.length ≤ c0_2) (hr0_3 : Kd.C k107 w A0_3 l0_3.length l0_3) (hc0_3 : l0_3.length ≤ c0_3) (hr0_13 : Kd.C Kd.bool w A0_13 l0_13.length l0_13) (hc0_13 : l0_13.length ≤ c0_13) (hr0_17 : Kd.C (Kd.int .i64) w A0_17 l0_17.length l0_17) (hc0_17 : l0_17.length ≤ c0_17) (hr1_2 : Kd.C k107 w A1_2 l1_2.length l1_2) (hc1_2 : l1_2.length ≤ c1_2) (hr1_3 : Kd.C k107 w A1_3 l1_3.length l1_3) (hc1_3 : l1_3.length ≤ c1_3) (hr1_13 : Kd.C Kd.bool w A1_13 l1_13.length l1_13) (hc1_13 : l1_13.length ≤ c1_13) (hr1_17 : Kd.C (Kd.int .i64) w A1_17 l1_17.length l1_17) (hc1_17 : l1_17.length ≤ c1_17) (h : impl_SameShown.f k a0_0 a0_1 l0_2 l0_3 a0_4 a0_5 a0_6 a0_7 a0_8 a0_9 a0_10 a0_11 a0_12 l0_13 a0_14 a0_15 a0_16 l0_17 a0_18 a0_19 a1_0 a1_1 l1_2 l1_3 a1_4 a1_5 a1_6 a1_7 a1_8 a1_9 a1_10 a1_11 a1_12 l1_13 a1_14 a1_15 a1_16 l1_17 a1_18 a1_19 = some r) :
  Calls Try.prog 40 #[.agg #[.int .i64 a0_0, .int .i64 a0_1, .slice A0_2 l0_2.length c0_2, .slice A0_3 l0_3.length c0_3, .int .i64 a0_4, .int .i64 a0_5, .bool a0_6, .int .i64 a0_7, .int .i64 a0_8, .int .i64 a0_9, .bool a0_10, .bool a0_11, .bool a0_12, .slice A0_13 l0_13.length c0_13, .int .i64 a0_14, .int .i64 a0_15, .int .i64 a0_16, .slice A0_17 l0_17.length c0_17, .int .i64 a0_18, .int .i64 a0_19], .agg #[.int .i64 a1_0, .int .i64 a1_1, .slice A1_2 l1_2.length c1_2, .slice A1_3 l1_3.length c1_3, .int .i64 a1_4, .int .i64 a1_5, .bool a1_6, .int .i64 a1_7, .int .i64 a1_8, .int .i64 a1_9, .bool a1_10, .bool a1_11, .bool a1_12, .slice A1_13 l1_13.length c1_13, .int .i64 a1_14, .int .i64 a1_15, .int .i64 a1_16, .slice A1_17 l1_17.length c1_17, .int .i64 a1_18, .int .i64 a1_19]] w fun e w' => e = .returned (.bool r) ∧ Below w.heap.size w w' := by
 have hu64 := Try.underlying64
 have hu47 := Try.underlying47
 have HR0_2 := Aside0.mk hr0_2
 have HC0_2 := Aside0.mk hc0_2
 clear hr0_2 hc0_2
 have HR0_3 := Aside0.mk hr0_3
 have HC0_3 := Aside0.mk hc0_3
 clear hr0_3 hc0_3
 have HR0_13 := Aside0.mk hr0_13
 have HC0_13 := Aside0.mk hc0_13
 clear hr0_13 hc0_13
 have HR0_17 := Aside0.mk hr0_17
 have HC0_17 := Aside0.mk hc0_17
 clear hr0_17 hc0_17
 have HR1_2 := Aside0.mk hr1_2
 have HC1_2 := Aside0.mk hc1_2
 clear hr1_2 hc1_2
 have HR1_3 := Aside0.mk hr1_3
 have HC1_3 := Aside0.mk hc1_3
 clear hr1_3 hc1_3
 have HR1_13 := Aside0.mk hr1_13
 have HC1_13 := Aside0.mk hc1_13
 clear hr1_13 hc1_13
 have HR1_17 := Aside0.mk hr1_17
 have HC1_17 := Aside0.mk hc1_17
 clear hr1_17 hc1_17
 have HB := Aside0.mk (Below.refl w.heap.size w)
 have H : (if (a0_6 == a1_6) = true then (if (a0_10 == a1_10) = true then (if (a0_11 == a1_11) = true then (impl_SameShown.j0 k (a0_12 == a1_12) a0_0 a0_1 l0_2 a0_4 a0_5 a0_6 a0_7 a0_8 a0_9 a0_10 a0_11 a0_12 l0_13 a0_14 a0_15 a0_16 l0_17 a0_18 a0_19 a1_0 a1_1 l1_2 a1_4 a1_5 a1_6 a1_7 a1_8 a1_9 a1_10 a1_11 a1_12 l1_13 a1_14 a1_15 a1_16 l1_17 a1_18 a1_19) else (impl_SameShown.j0 k false a0_0 a0_1 l0_2 a0_4 a0_5 a0_6 a0_7 a0_8 a0_9 a0_10 a0_11 a0_12 l0_13 a0_14 a0_15 a0_16 l0_17 a0_18 a0_19 a1_0 a1_1 l1_2 a1_4 a1_5 a1_6 a1_7 a1_8 a1_9 a1_10 a1_11 a1_12 l1_13 a1_14 a1_15 a1_16 l1_17 a1_18 a1_19)) else (impl_SameShown.j0 k false a0_0 a0_1 l0_2 a0_4 a0_5 a0_6 a0_7 a0_8 a0_9 a0_10 a0_11 a0_12 l0_13 a0_14 a0_15 a0_16 l0_17 a0_18 a0_19 a1_0 a1_1 l1_2 a1_4 a1_5 a1_6 a1_7 a1_8 a1_9 a1_10 a1_11 a1_12 l1_13 a1_14 a1_15 a1_16 l1_17 a1_18 a1_19)) else (impl_SameShown.j0 k false a0_0 a0_1 l0_2 a0_4 a0_5 a0_6 a0_7 a0_8 a0_9 a0_10 a0_11 a0_12 l0_13 a0_14 a0_15 a0_16 l0_17 a0_18 a0_19 a1_0 a1_1 l1_2 a1_4 a1_5 a1_6 a1_7 a1_8 a1_9 a1_10 a1_11 a1_12 l1_13 a1_14 a1_15 a1_16 l1_17 a1_18 a1_19)) = some r := h
 clear h
 have HC3 := Aside0.mk H
 clear H
 go_enter Try.func40, Try.ntmps40
 go_upto_region 2 with (first | ((with_reducible refine gate_dst (N := 2) rfl ?_); refine box_event ?hg (N := 2) ?hd (cs := #[.int .i64 a0_0, .int .i64 a0_1, .slice A0_2 l0_2.length c0_2, .slice A0_3 l0_3.length c0_3, .int .i64 a0_4, .int .i64 a0_5, .bool a0_6, .int .i64 a0_7, .int .i64 a0_8, .int .i64 a0_9, .bool a0_10, .bool a0_11, .bool a0_12, .slice A0_13 l0_13.length c0_13, .int .i64 a0_14, .int .i64 a0_15, .int .i64 a0_16, .slice A0_17 l0_17.length c0_17, .int .i64 a0_18, .int .i64 a0_19]) (t := 64) ?hr ?_; (case hd => rfl); (case hg => rfl); (case hr => first | (go_simp; done) | (go_simp; rfl)); intro gb176 hg w4 hbox hb; have n0_ := Aside0.mk (below_step (by repeat (first | (with_reducible first | exact HB.out | apply below_alloc | apply pw_below_drewN | apply below_drew1) | exact HB.out)) hb); have n1_ := Aside0.mk (hbox); have n2_ := Aside0.mk ((by rw [hg]; exact (below_size (by repeat (first | (with_reducible first | exact HB.out | apply below_alloc | apply pw_below_drewN | apply below_drew1) | exact HB.out))) : w.heap.size ≤ gb176)); have n3_ := Aside0.mk ((by rw [hg]; exact (below_size (by repeat (first | (with_reducible first | exact HB.out | apply below_alloc | apply pw_below_drewN | apply below_drew1) | exact HB.out))) : w.heap.size ≤ gb176)); clear HB; have HB := n0_; have BK176 := n1_; have GW176 := n2_; have GE176 := n3_; clear n0_ n1_ n2_ n3_; clear hb hbox hg) | ((with_reducible refine gate_dst (N := 3) rfl ?_); refine box_event ?hg (N := 3) ?hd (cs := #[.int .i64 a1_0, .int .i64 a1_1, .slice A1_2 l1_2.length c1_2, .slice A1_3 l1_3.length c1_3, .int .i64 a1_4, .int .i64 a1_5, .bool a1_6, .int .i64 a1_7, .int .i64 a1_8, .int .i64 a1_9, .bool a1_10, .bool a1_11, .bool a1_12, .slice A1_13 l1_13.length c1_13, .int .i64 a1_14, .int .i64 a1_15, .int .i64 a1_16, .slice A1_17 l1_17.length c1_17, .int .i64 a1_18, .int .i64 a1_19]) (t := 64) ?hr ?_; (case hd => rfl); (case hg => rfl); (case hr => first | (go_simp; done) | (go_simp; rfl)); intro gb177 hg w5 hbox hb; have n0_ := Aside0.mk (blkb hb BK176.out); have n1_ := Aside0.mk (below_step (by repeat (first | (with_reducible first | exact HB.out | apply below_alloc | apply pw_below_drewN | apply below_drew1 | refine below_set ?_ GE176.out) | exact HB.out)) hb); have n2_ := Aside0.mk (hbox); have n3_ := Aside0.mk ((by rw [hg]; exact (below_size (by repeat (first | (with_reducible first | exact HB.out | apply below_alloc | apply pw_below_drewN | apply below_drew1 | refine below_set ?_ GE176.out) | exact HB.out))) : w.heap.size ≤ gb177)); have n4_ := Aside0.mk ((by rw [hg]; exact (below_size (by repeat (first | (with_reducible first | exact HB.out | apply below_alloc | apply pw_below_drewN | apply below_drew1 | refine below_set ?_ GE176.out) | exact HB.out))) : w.heap.size ≤ gb177)); have n5_ := Aside0.mk ((blkn hg BK176.out)); have n6_ := Aside0.mk ((blkm hg BK176.out)); clear BK176; clear HB; have BK176 := n0_; have HB := n1_; have BK177 := n2_; have GW177 := n3_; have GE177 := n4_; have NB176_177 := n5_; have NB177_176 := n6_; clear n0_ n1_ n2_ n3_ n4_ n5_ n6_; clear hb hbox hg; have hnb6 := NB176_177.out; have hnc6 := NB177_176.out; have hcz7_0 : w5.cell? ⟨gb176, 0, none⟩ = some (.int .i64 a0_0) := (blk_cell BK176.out 0).trans rfl; have hcz7_1 : w5.cell? ⟨gb176, 1, none⟩ = some (.int .i64 a0_1) := (blk_cell BK176.out 1).trans rfl; have hcz7_2 : w5.cell? ⟨gb176, 2, none⟩ = some (.slice A0_2 l0_2.length c0_2) := (blk_cell BK176.out 2).trans rfl; have hcz7_3 : w5.cell? ⟨gb176, 3, none⟩ = some (.slice A0_3 l0_3.length c0_3) := (blk_cell BK176.out 3).trans rfl; have hcz7_4 : w5.cell? ⟨gb176, 4, none⟩ = some (.int .i64 a0_4) := (blk_cell BK176.out 4).trans rfl; have hcz7_5 : w5.cell? ⟨gb176, 5, none⟩ = some (.int .i64 a0_5) := (blk_cell BK176.out 5).trans rfl; have hcz7_6 : w5.cell? ⟨gb176, 6, none⟩ = some (.bool a0_6) := (blk_cell BK176.out 6).trans rfl; have hcz7_7 : w5.cell? ⟨gb176, 7, none⟩ = some (.int .i64 a0_7) := (blk_cell BK176.out 7).trans rfl; have hcz7_8 : w5.cell? ⟨gb176, 8, none⟩ = some (.int .i64 a0_8) := (blk_cell BK176.out 8).trans rfl; have hcz7_9 : w5.cell? ⟨gb176, 9, none⟩ = some (.int .i64 a0_9) := (blk_cell BK176.out 9).trans rfl; have hcz7_10 : w5.cell? ⟨gb176, 10, none⟩ = some (.bool a0_10) := (blk_cell BK176.out 10).trans rfl; have hcz7_11 : w5.cell? ⟨gb176, 11, none⟩ = some (.bool a0_11) := (blk_cell BK176.out 11).trans rfl; have hcz7_12 : w5.cell? ⟨gb176, 12, none⟩ = some (.bool a0_12) := (blk_cell BK176.out 12).trans rfl; have hcz7_13 : w5.cell? ⟨gb176, 13, none⟩ = some (.slice A0_13 l0_13.length c0_13) := (blk_cell BK176.out 13).trans rfl; have hcz7_14 : w5.cell? ⟨gb176, 14, none⟩ = some (.int .i64 a0_14) := (blk_cell BK176.out 14).trans rfl; have hcz7_15 : w5.cell? ⟨gb176, 15, none⟩ = some (.int .i64 a0_15) := (blk_cell BK176.out 15).trans rfl; have hcz7_16 : w5.cell? ⟨gb176, 16, none⟩ = some (.int .i64 a0_16) := (blk_cell BK176.out 16).trans rfl; have hcz7_17 : w5.cell? ⟨gb176, 17, none⟩ = some (.slice A0_17 l0_17.length c0_17) := (blk_cell BK176.out 17).trans rfl; have hcz7_18 : w5.cell? ⟨gb176, 18, none⟩ = some (.int .i64 a0_18) := (blk_cell BK176.out 18).trans rfl; have hcz7_19 : w5.cell? ⟨gb176, 19, none⟩ = some (.int .i64 a0_19) := (blk_cell BK176.out 19).trans rfl; have hfz7_0 := blk_frozen BK176.out 0; have hfz7_1 := blk_frozen BK176.out 1; have hfz7_2 := blk_frozen BK176.out 2; have hfz7_3 := blk_frozen BK176.out 3; have hfz7_4 := blk_frozen BK176.out 4; have hfz7_5 := blk_frozen BK176.out 5; have hfz7_6 := blk_frozen BK176.out 6; have hfz7_7 := blk_frozen BK176.out 7; have hfz7_8 := blk_frozen BK176.out 8; have hfz7_9 := blk_frozen BK176.out 9; have hfz7_10 := blk_frozen BK176.out 10; have hfz7_11 := blk_frozen BK176.out 11; have hfz7_12 := blk_frozen BK176.out 12; have hfz7_13 := blk_frozen BK176.out 13; have hfz7_14 := blk_frozen BK176.out 14; have hfz7_15 := blk_frozen BK176.out 15; have hfz7_16 := blk_frozen BK176.out 16; have hfz7_17 := blk_frozen BK176.out 17; have hfz7_18 := blk_frozen BK176.out 18; have hfz7_19 := blk_frozen BK176.out 19; have hcz8_0 : w5.cell? ⟨gb177, 0, none⟩ = some (.int .i64 a1_0) := (blk_cell BK177.out 0).trans rfl; have hcz8_1 : w5.cell? ⟨gb177, 1, none⟩ = some (.int .i64 a1_1) := (blk_cell BK177.out 1).trans rfl; have hcz8_2 : w5.cell? ⟨gb177, 2, none⟩ = some (.slice A1_2 l1_2.length c1_2) := (blk_cell BK177.out 2).trans rfl; have hcz8_3 : w5.cell? ⟨gb177, 3, none⟩ = some (.slice A1_3 l1_3.length c1_3) := (blk_cell BK177.out 3).trans rfl; have hcz8_4 : w5.cell? ⟨gb177, 4, none⟩ = some (.int .i64 a1_4) := (blk_cell BK177.out 4).trans rfl; have hcz8_5 : w5.cell? ⟨gb177, 5, none⟩ = some (.int .i64 a1_5) := (blk_cell BK177.out 5).trans rfl; have hcz8_6 : w5.cell? ⟨gb177, 6, none⟩ = some (.bool a1_6) := (blk_cell BK177.out 6).trans rfl; have hcz8_7 : w5.cell? ⟨gb177, 7, none⟩ = some (.int .i64 a1_7) := (blk_cell BK177.out 7).trans rfl; have hcz8_8 : w5.cell? ⟨gb177, 8, none⟩ = some (.int .i64 a1_8) := (blk_cell BK177.out 8).trans rfl; have hcz8_9 : w5.cell? ⟨gb177, 9, none⟩ = some (.int .i64 a1_9) := (blk_cell BK177.out 9).trans rfl; have hcz8_10 : w5.cell? ⟨gb177, 10, none⟩ = some (.bool a1_10) := (blk_cell BK177.out 10).trans rfl; have hcz8_11 : w5.cell? ⟨gb177, 11, none⟩ = some (.bool a1_11) := (blk_cell BK177.out 11).trans rfl; have hcz8_12 : w5.cell? ⟨gb177, 12, none⟩ = some (.bool a1_12) := (blk_cell BK177.out 12).trans rfl; have hcz8_13 : w5.cell? ⟨gb177, 13, none⟩ = some (.slice A1_13 l1_13.length c1_13) := (blk_cell BK177.out 13).trans rfl; have hcz8_14 : w5.cell? ⟨gb177, 14, none⟩ = some (.int .i64 a1_14) := (blk_cell BK177.out 14).trans rfl; have hcz8_15 : w5.cell? ⟨gb177, 15, none⟩ = some (.int .i64 a1_15) := (blk_cell BK177.out 15).trans rfl; have hcz8_16 : w5.cell? ⟨gb177, 16, none⟩ = some (.int .i64 a1_16) := (blk_cell BK177.out 16).trans rfl; have hcz8_17 : w5.cell? ⟨gb177, 17, none⟩ = some (.slice A1_17 l1_17.length c1_17) := (blk_cell BK177.out 17).trans rfl; have hcz8_18 : w5.cell? ⟨gb177, 18, none⟩ = some (.int .i64 a1_18) := (blk_cell BK177.out 18).trans rfl; have hcz8_19 : w5.cell? ⟨gb177, 19, none⟩ = some (.int .i64 a1_19) := (blk_cell BK177.out 19).trans rfl; have hfz8_0 := blk_frozen BK177.out 0; have hfz8_1 := blk_frozen BK177.out 1; have hfz8_2 := blk_frozen BK177.out 2; have hfz8_3 := blk_frozen BK177.out 3; have hfz8_4 := blk_frozen BK177.out 4; have hfz8_5 := blk_frozen BK177.out 5; have hfz8_6 := blk_frozen BK177.out 6; have hfz8_7 := blk_frozen BK177.out 7; have hfz8_8 := blk_frozen BK177.out 8; have hfz8_9 := blk_frozen BK177.out 9; have hfz8_10 := blk_frozen BK177.out 10; have hfz8_11 := blk_frozen BK177.out 11; have hfz8_12 := blk_frozen BK177.out 12; have hfz8_13 := blk_frozen BK177.out 13; have hfz8_14 := blk_frozen BK177.out 14; have hfz8_15 := blk_frozen BK177.out 15; have hfz8_16 := blk_frozen BK177.out 16; have hfz8_17 := blk_frozen BK177.out 17; have hfz8_18 := blk_frozen BK177.out 18; have hfz8_19 := blk_frozen BK177.out 19))
 (try simp only [Act.put, List.setIfInBounds_toArray, List.set_cons_zero, List.set_cons_succ])
 go_cut [5] (fun v5 wc => ∃ (kq : Nat) (x5_2 : Bool), v5 = .bool x5_2 ∧ Aside0 (impl_SameShown.j0 kq x5_2 a0_0 a0_1 l0_2 a0_4 a0_5 a0_6 a0_7 a0_8 a0_9 a0_10 a0_11 a0_12 l0_13 a0_14 a0_15 a0_16 l0_17 a0_18 a0_19 a1_0 a1_1 l1_2 a1_4 a1_5 a1_6 a1_7 a1_8 a1_9 a1_10 a1_11 a1_12 l1_13 a1_14 a1_15 a1_16 l1_17 a1_18 a1_19 = some r) ∧ Aside0 (kq ≤ k) ∧ Aside0 (wc.heap[gb176]? = some (.cells #[.int .i64 a0_0, .int .i64 a0_1, (.slice A0_2 l0_2.length c0_2), (.slice none 0 0), .int .i64 a0_4, .int .i64 a0_5, .bool a0_6, .int .i64 a0_7, .int .i64 a0_8, .int .i64 a0_9, .bool a0_10, .bool a0_11, .bool a0_12, (.slice A0_13 l0_13.length c0_13), .int .i64 a0_14, .int .i64 a0_15, .int .i64 a0_16, (.slice A0_17 l0_17.length c0_17), .int .i64 a0_18, .int .i64 a0_19] 64 (0, 0))) ∧ Aside0 (wc.heap[gb177]? = some (.cells #[.int .i64 a1_0, .int .i64 a1_1, (.slice A1_2 l1_2.length c1_2), (.slice none 0 0), .int .i64 a1_4, .int .i64 a1_5, .bool a1_6, .int .i64 a1_7, .int .i64 a1_8, .int .i64 a1_9, .bool a1_10, .bool a1_11, .bool a1_12, (.slice A1_13 l1_13.length c1_13), .int .i64 a1_14, .int .i64 a1_15, .int .i64 a1_16, (.slice A1_17 l1_17.length c1_17), .int .i64 a1_18, .int .i64 a1_19] 64 (0, 0))) ∧ Aside0 (Below w.heap.size w wc))
 case first =>
  have H := HC3.out
  clear HC3
  by_cases c9 : (a0_6 == a1_6) = true
  ·rw [if_pos c9] at H
   have c9b0 : (a0_6 == a1_6) = true := c9
   (try (have c9b1 : decide (a0_6 = a1_6) = true := by simpa using c9))
   (try (have c9b2 : (a0_6 == a1_6) = true := by simpa using c9))
   clear c9
   (first | rw [c9b0] | (simp only [i64_w, i32_w]; rw [c9b0]) | skip)
   by_cases c10 : (a0_10 == a1_10) = true
   ·rw [if_pos c10] at H
    have c10b0 : (a0_10 == a1_10) = true := c10
    (try (have c10b1 : decide (a0_10 = a1_10) = true := by simpa using c10))
    (try (have c10b2 : (a0_10 == a1_10) = true := by simpa using c10))
    clear c10
    by_cases c11 : (a0_11 == a1_11) = true
    ·rw [if_pos c11] at H
     have c11b0 : (a0_11 == a1_11) = true := c11
     (try (have c11b1 : decide (a0_11 = a1_11) = true := by simpa using c11))
     (try (have c11b2 : (a0_11 == a1_11) = true := by simpa using c11))
     clear c11
     have H' := Aside0.mk H
     clear H
     have hnb12 := NB176_177.out
     have hnc12 := NB177_176.out
     have hcz13_0 : w5.cell? ⟨gb176, 0, none⟩ = some (.int .i64 a0_0) := (blk_cell BK176.out 0).trans rfl
     have hcz13_1 : w5.cell? ⟨gb176, 1, none⟩ = some (.int .i64 a0_1) := (blk_cell BK176.out 1).trans rfl
     have hcz13_2 : w5.cell? ⟨gb176, 2, none⟩ = some (.slice A0_2 l0_2.length c0_2) := (blk_cell BK176.out 2).trans rfl
     have hcz13_3 : w5.cell? ⟨gb176, 3, none⟩ = some (.slice A0_3 l0_3.length c0_3) := (blk_cell BK176.out 3).trans rfl
     have hcz13_4 : w5.cell? ⟨gb176, 4, none⟩ = some (.int .i64 a0_4) := (blk_cell BK176.out 4).trans rfl
     have hcz13_5 : w5.cell? ⟨gb176, 5, none⟩ = some (.int .i64 a0_5) := (blk_cell BK176.out 5).trans rfl
     have hcz13_6 : w5.cell? ⟨gb176, 6, none⟩ = some (.bool a0_6) := (blk_cell BK176.out 6).trans rfl
     have hcz13_7 : w5.cell? ⟨gb176, 7, none⟩ = some (.int .i64 a0_7) := (blk_cell BK176.out 7).trans rfl
     have hcz13_8 : w5.cell? ⟨gb176, 8, none⟩ = some (.int .i64 a0_8) := (blk_cell BK176.out 8).trans rfl
     have hcz13_9 : w5.cell? ⟨gb176, 9, none⟩ = some (.int .i64 a0_9) := (blk_cell BK176.out 9).trans rfl
     have hcz13_10 : w5.cell? ⟨gb176, 10, none⟩ = some (.bool a0_10) := (blk_cell BK176.out 10).trans rfl
     have hcz13_11 : w5.cell? ⟨gb176, 11, none⟩ = some (.bool a0_11) := (blk_cell BK176.out 11).trans rfl
     have hcz13_12 : w5.cell? ⟨gb176, 12, none⟩ = some (.bool a0_12) := (blk_cell BK176.out 12).trans rfl
     have hcz13_13 : w5.cell? ⟨gb176, 13, none⟩ = some (.slice A0_13 l0_13.length c0_13) := (blk_cell BK176.out 13).trans rfl
     have hcz13_14 : w5.cell? ⟨gb176, 14, none⟩ = some (.int .i64 a0_14) := (blk_cell BK176.out 14).trans rfl
     have hcz13_15 : w5.cell? ⟨gb176, 15, none⟩ = some (.int .i64 a0_15) := (blk_cell BK176.out 15).trans rfl
     have hcz13_16 : w5.cell? ⟨gb176, 16, none⟩ = some (.int .i64 a0_16) := (blk_cell BK176.out 16).trans rfl
     have hcz13_17 : w5.cell? ⟨gb176, 17, none⟩ = some (.slice A0_17 l0_17.length c0_17) := (blk_cell BK176.out 17).trans rfl
     have hcz13_18 : w5.cell? ⟨gb176, 18, none⟩ = some (.int .i64 a0_18) := (blk_cell BK176.out 18).trans rfl
     have hcz13_19 : w5.cell? ⟨gb176, 19, none⟩ = some (.int .i64 a0_19) := (blk_cell BK176.out 19).trans rfl
     have hfz13_0 := blk_frozen BK176.out 0
     have hfz13_1 := blk_frozen BK176.out 1
     have hfz13_2 := blk_frozen BK176.out 2
     have hfz13_3 := blk_frozen BK176.out 3
     have hfz13_4 := blk_frozen BK176.out 4
     have hfz13_5 := blk_frozen BK176.out 5
     have hfz13_6 := blk_frozen BK176.out 6
     have hfz13_7 := blk_frozen BK176.out 7
     have hfz13_8 := blk_frozen BK176.out 8
     have hfz13_9 := blk_frozen BK176.out 9
     have hfz13_10 := blk_frozen BK176.out 10
     have hfz13_11 := blk_frozen BK176.out 11
     have hfz13_12 := blk_frozen BK176.out 12
     have hfz13_13 := blk_frozen BK176.out 13
     have hfz13_14 := blk_frozen BK176.out 14
     have hfz13_15 := blk_frozen BK176.out 15
     have hfz13_16 := blk_frozen BK176.out 16
     have hfz13_17 := blk_frozen BK176.out 17
     have hfz13_18 := blk_frozen BK176.out 18
     have hfz13_19 := blk_frozen BK176.out 19
     have hcz14_0 : w5.cell? ⟨gb177, 0, none⟩ = some (.int .i64 a1_0) := (blk_cell BK177.out 0).trans rfl
     have hcz14_1 : w5.cell? ⟨gb177, 1, none⟩ = some (.int .i64 a1_1) := (blk_cell BK177.out 1).trans rfl
     have hcz14_2 : w5.cell? ⟨gb177, 2, none⟩ = some (.slice A1_2 l1_2.length c1_2) := (blk_cell BK177.out 2).trans rfl
     have hcz14_3 : w5.cell? ⟨gb177, 3, none⟩ = some (.slice A1_3 l1_3.length c1_3) := (blk_cell BK177.out 3).trans rfl
     have hcz14_4 : w5.cell? ⟨gb177, 4, none⟩ = some (.int .i64 a1_4) := (blk_cell BK177.out 4).trans rfl
     have hcz14_5 : w5.cell? ⟨gb177, 5, none⟩ = some (.int .i64 a1_5) := (blk_cell BK177.out 5).trans rfl
     have hcz14_6 : w5.cell? ⟨gb177, 6, none⟩ = some (.bool a1_6) := (blk_cell BK177.out 6).trans rfl
     have hcz14_7 : w5.cell? ⟨gb177, 7, none⟩ = some (.int .i64 a1_7) := (blk_cell BK177.out 7).trans rfl
     have hcz14_8 : w5.cell? ⟨gb177, 8, none⟩ = some (.int .i64 a1_8) := (blk_cell BK177.out 8).trans rfl
     have hcz14_9 : w5.cell? ⟨gb177, 9, none⟩ = some (.int .i64 a1_9) := (blk_cell BK177.out 9).trans rfl
     have hcz14_10 : w5.cell? ⟨gb177, 10, none⟩ = some (.bool a1_10) := (blk_cell BK177.out 10).trans rfl
     have hcz14_11 : w5.cell? ⟨gb177, 11, none⟩ = some (.bool a1_11) := (blk_cell BK177.out 11).trans rfl
     have hcz14_12 : w5.cell? ⟨gb177, 12, none⟩ = some (.bool a1_12) := (blk_cell BK177.out 12).trans rfl
     have hcz14_13 : w5.cell? ⟨gb177, 13, none⟩ = some (.slice A1_13 l1_13.length c1_13) := (blk_cell BK177.out 13).trans rfl
     have hcz14_14 : w5.cell? ⟨gb177, 14, none⟩ = some (.int .i64 a1_14) := (blk_cell BK177.out 14).trans rfl
     have hcz14_15 : w5.cell? ⟨gb177, 15, none⟩ = some (.int .i64 a1_15) := (blk_cell BK177.out 15).trans rfl
     have hcz14_16 : w5.cell? ⟨gb177, 16, none⟩ = some (.int .i64 a1_16) := (blk_cell BK177.out 16).trans rfl
     have hcz14_17 : w5.cell? ⟨gb177, 17, none⟩ = some (.slice A1_17 l1_17.length c1_17) := (blk_cell BK177.out 17).trans rfl
     have hcz14_18 : w5.cell? ⟨gb177, 18, none⟩ = some (.int .i64 a1_18) := (blk_cell BK177.out 18).trans rfl
     have hcz14_19 : w5.cell? ⟨gb177, 19, none⟩ = some (.int .i64 a1_19) := (blk_cell BK177.out 19).trans rfl
     have hfz14_0 := blk_frozen BK177.out 0
     have hfz14_1 := blk_frozen BK177.out 1
     have hfz14_2 := blk_frozen BK177.out 2
     have hfz14_3 := blk_frozen BK177.out 3
     have hfz14_4 := blk_frozen BK177.out 4
     have hfz14_5 := blk_frozen BK177.out 5
     have hfz14_6 := blk_frozen BK177.out 6
     have hfz14_7 := blk_frozen BK177.out 7
     have hfz14_8 := blk_frozen BK177.out 8
     have hfz14_9 := blk_frozen BK177.out 9
     have hfz14_10 := blk_frozen BK177.out 10
     have hfz14_11 := blk_frozen BK177.out 11
     have hfz14_12 := blk_frozen BK177.out 12
     have hfz14_13 := blk_frozen BK177.out 13
     have hfz14_14 := blk_frozen BK177.out 14
     have hfz14_15 := blk_frozen BK177.out 15
     have hfz14_16 := blk_frozen BK177.out 16
     have hfz14_17 := blk_frozen BK177.out 17
     have hfz14_18 := blk_frozen BK177.out 18
     have hfz14_19 := blk_frozen BK177.out 19
     go_wp2
     go_meet
     case rel => exact ⟨_, ((a0_12 == a1_12)), (by first | rfl | (simp; done) | (simp [*]; done)), H', ⟨by first | omega | exact Nat.le_refl _⟩, ⟨by (with_reducible repeat (first | refine blk_drewN ?_ _ | refine blk_drew ?_ | refine blk_alloc ?_ _)); refine blk_far ?_ NB176_177.out _; (with_reducible repeat (first | refine blk_drewN ?_ _ | refine blk_drew ?_ | refine blk_alloc ?_ _)); refine blk_put (cs := #[.int .i64 a0_0, .int .i64 a0_1, .slice A0_2 l0_2.length c0_2, .slice A0_3 l0_3.length c0_3, .int .i64 a0_4, .int .i64 a0_5, .bool a0_6, .int .i64 a0_7, .int .i64 a0_8, .int .i64 a0_9, .bool a0_10, .bool a0_11, .bool a0_12, .slice A0_13 l0_13.length c0_13, .int .i64 a0_14, .int .i64 a0_15, .int .i64 a0_16, .slice A0_17 l0_17.length c0_17, .int .i64 a0_18, .int .i64 a0_19]) ?_ 3 _ rfl; (with_reducible repeat (first | refine blk_drewN ?_ _ | refine blk_drew ?_ | refine blk_alloc ?_ _)); exact BK176.out⟩, ⟨by (with_reducible repeat (first | refine blk_drewN ?_ _ | refine blk_drew ?_ | refine blk_alloc ?_ _)); refine blk_put (cs := #[.int .i64 a1_0, .int .i64 a1_1, .slice A1_2 l1_2.length c1_2, .slice A1_3 l1_3.length c1_3, .int .i64 a1_4, .int .i64 a1_5, .bool a1_6, .int .i64 a1_7, .int .i64 a1_8, .int .i64 a1_9, .bool a1_10, .bool a1_11, .bool a1_12, .slice A1_13 l1_13.length c1_13, .int .i64 a1_14, .int .i64 a1_15, .int .i64 a1_16, .slice A1_17 l1_17.length c1_17, .int .i64 a1_18, .int .i64 a1_19]) ?_ 3 _ rfl; (with_reducible repeat (first | refine blk_drewN ?_ _ | refine blk_drew ?_ | refine blk_alloc ?_ _)); refine blk_far ?_ NB177_176.out _; (with_reducible repeat (first | refine blk_drewN ?_ _ | refine blk_drew ?_ | refine blk_alloc ?_ _)); exact BK177.out⟩, ⟨by repeat (first | (with_reducible first | exact HB.out | apply below_alloc | apply pw_below_drewN | apply below_drew1 | refine below_set ?_ GE176.out | refine below_set ?_ GE177.out) | exact HB.out)⟩⟩
    ·rw [if_neg c11] at H
     have c11b0 : (a0_11 == a1_11) = false := by simpa using c11
     (try (have c11b1 : decide (a0_11 = a1_11) = false := by simpa using c11))
     (try (have c11b2 : (a0_11 == a1_11) = false := by simpa using c11))
     (try (have c11b3 : ¬ (a0_11 = a1_11) := by simpa using c11))
     clear c11
     have H' := Aside0.mk H
     clear H
     have hnb15 := NB176_177.out
     have hnc15 := NB177_176.out
     have hcz16_0 : w5.cell? ⟨gb176, 0, none⟩ = some (.int .i64 a0_0) := (blk_cell BK176.out 0).trans rfl
     have hcz16_1 : w5.cell? ⟨gb176, 1, none⟩ = some (.int .i64 a0_1) := (blk_cell BK176.out 1).trans rfl
     have hcz16_2 : w5.cell? ⟨gb176, 2, none⟩ = some (.slice A0_2 l0_2.length c0_2) := (blk_cell BK176.out 2).trans rfl
     have hcz16_3 : w5.cell? ⟨gb176, 3, none⟩ = some (.slice A0_3 l0_3.length c0_3) := (blk_cell BK176.out 3).trans rfl
     have hcz16_4 : w5.cell? ⟨gb176, 4, none⟩ = some (.int .i64 a0_4) := (blk_cell BK176.out 4).trans rfl
     have hcz16_5 : w5.cell? ⟨gb176, 5, none⟩ = some (.int .i64 a0_5) := (blk_cell BK176.out 5).trans rfl
     have hcz16_6 : w5.cell? ⟨gb176, 6, none⟩ = some (.bool a0_6) := (blk_cell BK176.out 6).trans rfl
     have hcz16_7 : w5.cell? ⟨gb176, 7, none⟩ = some (.int .i64 a0_7) := (blk_cell BK176.out 7).trans rfl
     have hcz16_8 : w5.cell? ⟨gb176, 8, none⟩ = some (.int .i64 a0_8) := (blk_cell BK176.out 8).trans rfl
     have hcz16_9 : w5.cell? ⟨gb176, 9, none⟩ = some (.int .i64 a0_9) := (blk_cell BK176.out 9).trans rfl
     have hcz16_10 : w5.cell? ⟨gb176, 10, none⟩ = some (.bool a0_10) := (blk_cell BK176.out 10).trans rfl
     have hcz16_11 : w5.cell? ⟨gb176, 11, none⟩ = some (.bool a0_11) := (blk_cell BK176.out 11).trans rfl
     have hcz16_12 : w5.cell? ⟨gb176, 12, none⟩ = some (.bool a0_12) := (blk_cell BK176.out 12).trans rfl
     have hcz16_13 : w5.cell? ⟨gb176, 13, none⟩ = some (.slice A0_13 l0_13.length c0_13) := (blk_cell BK176.out 13).trans rfl
     have hcz16_14 : w5.cell? ⟨gb176, 14, none⟩ = some (.int .i64 a0_14) := (blk_cell BK176.out 14).trans rfl
     have hcz16_15 : w5.cell? ⟨gb176, 15, none⟩ = some (.int .i64 a0_15) := (blk_cell BK176.out 15).trans rfl
     have hcz16_16 : w5.cell? ⟨gb176, 16, none⟩ = some (.int .i64 a0_16) := (blk_cell BK176.out 16).trans rfl
     have hcz16_17 : w5.cell? ⟨gb176, 17, none⟩ = some (.slice A0_17 l0_17.length c0_17) := (blk_cell BK176.out 17).trans rfl
     have hcz16_18 : w5.cell? ⟨gb176, 18, none⟩ = some (.int .i64 a0_18) := (blk_cell BK176.out 18).trans rfl
     have hcz16_19 : w5.cell? ⟨gb176, 19, none⟩ = some (.int .i64 a0_19) := (blk_cell BK176.out 19).trans rfl
     have hfz16_0 := blk_frozen BK176.out 0
     have hfz16_1 := blk_frozen BK176.out 1
     have hfz16_2 := blk_frozen BK176.out 2
     have hfz16_3 := blk_frozen BK176.out 3
     have hfz16_4 := blk_frozen BK176.out 4
     have hfz16_5 := blk_frozen BK176.out 5
     have hfz16_6 := blk_frozen BK176.out 6
     have hfz16_7 := blk_frozen BK176.out 7
     have hfz16_8 := blk_frozen BK176.out 8
     have hfz16_9 := blk_frozen BK176.out 9
     have hfz16_10 := blk_frozen BK176.out 10
     have hfz16_11 := blk_frozen BK176.out 11
     have hfz16_12 := blk_frozen BK176.out 12
     have hfz16_13 := blk_frozen BK176.out 13
     have hfz16_14 := blk_frozen BK176.out 14
     have hfz16_15 := blk_frozen BK176.out 15
     have hfz16_16 := blk_frozen BK176.out 16
     have hfz16_17 := blk_frozen BK176.out 17
     have hfz16_18 := blk_frozen BK176.out 18
     have hfz16_19 := blk_frozen BK176.out 19
     have hcz17_0 : w5.cell? ⟨gb177, 0, none⟩ = some (.int .i64 a1_0) := (blk_cell BK177.out 0).trans rfl
     have hcz17_1 : w5.cell? ⟨gb177, 1, none⟩ = some (.int .i64 a1_1) := (blk_cell BK177.out 1).trans rfl
     have hcz17_2 : w5.cell? ⟨gb177, 2, none⟩ = some (.slice A1_2 l1_2.length c1_2) := (blk_cell BK177.out 2).trans rfl
     have hcz17_3 : w5.cell? ⟨gb177, 3, none⟩ = some (.slice A1_3 l1_3.length c1_3) := (blk_cell BK177.out 3).trans rfl
     have hcz17_4 : w5.cell? ⟨gb177, 4, none⟩ = some (.int .i64 a1_4) := (blk_cell BK177.out 4).trans rfl
     have hcz17_5 : w5.cell? ⟨gb177, 5, none⟩ = some (.int .i64 a1_5) := (blk_cell BK177.out 5).trans rfl
     have hcz17_6 : w5.cell? ⟨gb177, 6, none⟩ = some (.bool a1_6) := (blk_cell BK177.out 6).trans rfl
     have hcz17_7 : w5.cell? ⟨gb177, 7, none⟩ = some (.int .i64 a1_7) := (blk_cell BK177.out 7).trans rfl
     have hcz17_8 : w5.cell? ⟨gb177, 8, none⟩ = some (.int .i64 a1_8) := (blk_cell BK177.out 8).trans rfl
     have hcz17_9 : w5.cell? ⟨gb177, 9, none⟩ = some (.int .i64 a1_9) := (blk_cell BK177.out 9).trans rfl
     have hcz17_10 : w5.cell? ⟨gb177, 10, none⟩ = some (.bool a1_10) := (blk_cell BK177.out 10).trans rfl
     have hcz17_11 : w5.cell? ⟨gb177, 11, none⟩ = some (.bool a1_11) := (blk_cell BK177.out 11).trans rfl
     have hcz17_12 : w5.cell? ⟨gb177, 12, none⟩ = some (.bool a1_12) := (blk_cell BK177.out 12).trans rfl
     have hcz17_13 : w5.cell? ⟨gb177, 13, none⟩ = some (.slice A1_13 l1_13.length c1_13) := (blk_cell BK177.out 13).trans rfl
     have hcz17_14 : w5.cell? ⟨gb177, 14, none⟩ = some (.int .i64 a1_14) := (blk_cell BK177.out 14).trans rfl
     have hcz17_15 : w5.cell? ⟨gb177, 15, none⟩ = some (.int .i64 a1_15) := (blk_cell BK177.out 15).trans rfl
     have hcz17_16 : w5.cell? ⟨gb177, 16, none⟩ = some (.int .i64 a1_16) := (blk_cell BK177.out 16).trans rfl
     have hcz17_17 : w5.cell? ⟨gb177, 17, none⟩ = some (.slice A1_17 l1_17.length c1_17) := (blk_cell BK177.out 17).trans rfl
     have hcz17_18 : w5.cell? ⟨gb177, 18, none⟩ = some (.int .i64 a1_18) := (blk_cell BK177.out 18).trans rfl
     have hcz17_19 : w5.cell? ⟨gb177, 19, none⟩ = some (.int .i64 a1_19) := (blk_cell BK177.out 19).trans rfl
     have hfz17_0 := blk_frozen BK177.out 0
     have hfz17_1 := blk_frozen BK177.out 1
     have hfz17_2 := blk_frozen BK177.out 2
     have hfz17_3 := blk_frozen BK177.out 3
     have hfz17_4 := blk_frozen BK177.out 4
     have hfz17_5 := blk_frozen BK177.out 5
     have hfz17_6 := blk_frozen BK177.out 6
     have hfz17_7 := blk_frozen BK177.out 7
     have hfz17_8 := blk_frozen BK177.out 8
     have hfz17_9 := blk_frozen BK177.out 9
     have hfz17_10 := blk_frozen BK177.out 10
     have hfz17_11 := blk_frozen BK177.out 11
     have hfz17_12 := blk_frozen BK177.out 12
     have hfz17_13 := blk_frozen BK177.out 13
     have hfz17_14 := blk_frozen BK177.out 14
     have hfz17_15 := blk_frozen BK177.out 15
     have hfz17_16 := blk_frozen BK177.out 16
     have hfz17_17 := blk_frozen BK177.out 17
     have hfz17_18 := blk_frozen BK177.out 18
     have hfz17_19 := blk_frozen BK177.out 19
     go_wp2
     go_meet
     case rel => exact ⟨_, (false), (by first | rfl | (simp; done) | (simp [*]; done)), H', ⟨by first | omega | exact Nat.le_refl _⟩, ⟨by (with_reducible repeat (first | refine blk_drewN ?_ _ | refine blk_drew ?_ | refine blk_alloc ?_ _)); refine blk_far ?_ NB176_177.out _; (with_reducible repeat (first | refine blk_drewN ?_ _ | refine blk_drew ?_ | refine blk_alloc ?_ _)); refine blk_put (cs := #[.int .i64 a0_0, .int .i64 a0_1, .slice A0_2 l0_2.length c0_2, .slice A0_3 l0_3.length c0_3, .int .i64 a0_4, .int .i64 a0_5, .bool a0_6, .int .i64 a0_7, .int .i64 a0_8, .int .i64 a0_9, .bool a0_10, .bool a0_11, .bool a0_12, .slice A0_13 l0_13.length c0_13, .int .i64 a0_14, .int .i64 a0_15, .int .i64 a0_16, .slice A0_17 l0_17.length c0_17, .int .i64 a0_18, .int .i64 a0_19]) ?_ 3 _ rfl; (with_reducible repeat (first | refine blk_drewN ?_ _ | refine blk_drew ?_ | refine blk_alloc ?_ _)); exact BK176.out⟩, ⟨by (with_reducible repeat (first | refine blk_drewN ?_ _ | refine blk_drew ?_ | refine blk_alloc ?_ _)); refine blk_put (cs := #[.int .i64 a1_0, .int .i64 a1_1, .slice A1_2 l1_2.length c1_2, .slice A1_3 l1_3.length c1_3, .int .i64 a1_4, .int .i64 a1_5, .bool a1_6, .int .i64 a1_7, .int .i64 a1_8, .int .i64 a1_9, .bool a1_10, .bool a1_11, .bool a1_12, .slice A1_13 l1_13.length c1_13, .int .i64 a1_14, .int .i64 a1_15, .int .i64 a1_16, .slice A1_17 l1_17.length c1_17, .int .i64 a1_18, .int .i64 a1_19]) ?_ 3 _ rfl; (with_reducible repeat (first | refine blk_drewN ?_ _ | refine blk_drew ?_ | refine blk_alloc ?_ _)); refine blk_far ?_ NB177_176.out _; (with_reducible repeat (first | refine blk_drewN ?_ _ | refine blk_drew ?_ | refine blk_alloc ?_ _)); exact BK177.out⟩, ⟨by repeat (first | (with_reducible first | exact HB.out | apply below_alloc | apply pw_below_drewN | apply below_drew1 | refine below_set ?_ GE176.out | refine below_set ?_ GE177.out) | exact HB.out)⟩⟩
   ·rw [if_neg c10] at H
    have c10b0 : (a0_10 == a1_10) = false := by simpa using c10
    (try (have c10b1 : decide (a0_10 = a1_10) = false := by simpa using c10))
    (try (have c10b2 : (a0_10 == a1_10) = false := by simpa using c10))
    (try (have c10b3 : ¬ (a0_10 = a1_10) := by simpa using c10))
    clear c10
    have H' := Aside0.mk H
    clear H
    have hnb18 := NB176_177.out
    have hnc18 := NB177_176.out
    have hcz19_0 : w5.cell? ⟨gb176, 0, none⟩ = some (.int .i64 a0_0) := (blk_cell BK176.out 0).trans rfl
    have hcz19_1 : w5.cell? ⟨gb176, 1, none⟩ = some (.int .i64 a0_1) := (blk_cell BK176.out 1).trans rfl
    have hcz19_2 : w5.cell? ⟨gb176, 2, none⟩ = some (.slice A0_2 l0_2.length c0_2) := (blk_cell BK176.out 2).trans rfl
    have hcz19_3 : w5.cell? ⟨gb176, 3, none⟩ = some (.slice A0_3 l0_3.length c0_3) := (blk_cell BK176.out 3).trans rfl
    have hcz19_4 : w5.cell? ⟨gb176, 4, none⟩ = some (.int .i64 a0_4) := (blk_cell BK176.out 4).trans rfl
    have hcz19_5 : w5.cell? ⟨gb176, 5, none⟩ = some (.int .i64 a0_5) := (blk_cell BK176.out 5).trans rfl
    have hcz19_6 : w5.cell? ⟨gb176, 6, none⟩ = some (.bool a0_6) := (blk_cell BK176.out 6).trans rfl
    have hcz19_7 : w5.cell? ⟨gb176, 7, none⟩ = some (.int .i64 a0_7) := (blk_cell BK176.out 7).trans rfl
    have hcz19_8 : w5.cell? ⟨gb176, 8, none⟩ = some (.int .i64 a0_8) := (blk_cell BK176.out 8).trans rfl
    have hcz19_9 : w5.cell? ⟨gb176, 9, none⟩ = some (.int .i64 a0_9) := (blk_cell BK176.out 9).trans rfl
    have hcz19_10 : w5.cell? ⟨gb176, 10, none⟩ = some (.bool a0_10) := (blk_cell BK176.out 10).trans rfl
    have hcz19_11 : w5.cell? ⟨gb176, 11, none⟩ = some (.bool a0_11) := (blk_cell BK176.out 11).trans rfl
    have hcz19_12 : w5.cell? ⟨gb176, 12, none⟩ = some (.bool a0_12) := (blk_cell BK176.out 12).trans rfl
    have hcz19_13 : w5.cell? ⟨gb176, 13, none⟩ = some (.slice A0_13 l0_13.length c0_13) := (blk_cell BK176.out 13).trans rfl
    have hcz19_14 : w5.cell? ⟨gb176, 14, none⟩ = some (.int .i64 a0_14) := (blk_cell BK176.out 14).trans rfl
    have hcz19_15 : w5.cell? ⟨gb176, 15, none⟩ = some (.int .i64 a0_15) := (blk_cell BK176.out 15).trans rfl
    have hcz19_16 : w5.cell? ⟨gb176, 16, none⟩ = some (.int .i64 a0_16) := (blk_cell BK176.out 16).trans rfl
    have hcz19_17 : w5.cell? ⟨gb176, 17, none⟩ = some (.slice A0_17 l0_17.length c0_17) := (blk_cell BK176.out 17).trans rfl
    have hcz19_18 : w5.cell? ⟨gb176, 18, none⟩ = some (.int .i64 a0_18) := (blk_cell BK176.out 18).trans rfl
    have hcz19_19 : w5.cell? ⟨gb176, 19, none⟩ = some (.int .i64 a0_19) := (blk_cell BK176.out 19).trans rfl
    have hfz19_0 := blk_frozen BK176.out 0
    have hfz19_1 := blk_frozen BK176.out 1
    have hfz19_2 := blk_frozen BK176.out 2
    have hfz19_3 := blk_frozen BK176.out 3
    have hfz19_4 := blk_frozen BK176.out 4
    have hfz19_5 := blk_frozen BK176.out 5
    have hfz19_6 := blk_frozen BK176.out 6
    have hfz19_7 := blk_frozen BK176.out 7
    have hfz19_8 := blk_frozen BK176.out 8
    have hfz19_9 := blk_frozen BK176.out 9
    have hfz19_10 := blk_frozen BK176.out 10
    have hfz19_11 := blk_frozen BK176.out 11
    have hfz19_12 := blk_frozen BK176.out 12
    have hfz19_13 := blk_frozen BK176.out 13
    have hfz19_14 := blk_frozen BK176.out 14
    have hfz19_15 := blk_frozen BK176.out 15
    have hfz19_16 := blk_frozen BK176.out 16
    have hfz19_17 := blk_frozen BK176.out 17
    have hfz19_18 := blk_frozen BK176.out 18
    have hfz19_19 := blk_frozen BK176.out 19
    have hcz20_0 : w5.cell? ⟨gb177, 0, none⟩ = some (.int .i64 a1_0) := (blk_cell BK177.out 0).trans rfl
    have hcz20_1 : w5.cell? ⟨gb177, 1, none⟩ = some (.int .i64 a1_1) := (blk_cell BK177.out 1).trans rfl
    have hcz20_2 : w5.cell? ⟨gb177, 2, none⟩ = some (.slice A1_2 l1_2.length c1_2) := (blk_cell BK177.out 2).trans rfl
    have hcz20_3 : w5.cell? ⟨gb177, 3, none⟩ = some (.slice A1_3 l1_3.length c1_3) := (blk_cell BK177.out 3).trans rfl
    have hcz20_4 : w5.cell? ⟨gb177, 4, none⟩ = some (.int .i64 a1_4) := (blk_cell BK177.out 4).trans rfl
    have hcz20_5 : w5.cell? ⟨gb177, 5, none⟩ = some (.int .i64 a1_5) := (blk_cell BK177.out 5).trans rfl
    have hcz20_6 : w5.cell? ⟨gb177, 6, none⟩ = some (.bool a1_6) := (blk_cell BK177.out 6).trans rfl
    have hcz20_7 : w5.cell? ⟨gb177, 7, none⟩ = some (.int .i64 a1_7) := (blk_cell BK177.out 7).trans rfl
    have hcz20_8 : w5.cell? ⟨gb177, 8, none⟩ = some (.int .i64 a1_8) := (blk_cell BK177.out 8).trans rfl
    have hcz20_9 : w5.cell? ⟨gb177, 9, none⟩ = some (.int .i64 a1_9) := (blk_cell BK177.out 9).trans rfl
    have hcz20_10 : w5.cell? ⟨gb177, 10, none⟩ = some (.bool a1_10) := (blk_cell BK177.out 10).trans rfl
    have hcz20_11 : w5.cell? ⟨gb177, 11, none⟩ = some (.bool a1_11) := (blk_cell BK177.out 11).trans rfl
    have hcz20_12 : w5.cell? ⟨gb177, 12, none⟩ = some (.bool a1_12) := (blk_cell BK177.out 12).trans rfl
    have hcz20_13 : w5.cell? ⟨gb177, 13, none⟩ = some (.slice A1_13 l1_13.length c1_13) := (blk_cell BK177.out 13).trans rfl
    have hcz20_14 : w5.cell? ⟨gb177, 14, none⟩ = some (.int .i64 a1_14) := (blk_cell BK177.out 14).trans rfl
    have hcz20_15 : w5.cell? ⟨gb177, 15, none⟩ = some (.int .i64 a1_15) := (blk_cell BK177.out 15).trans rfl
    have hcz20_16 : w5.cell? ⟨gb177, 16, none⟩ = some (.int .i64 a1_16) := (blk_cell BK177.out 16).trans rfl
    have hcz20_17 : w5.cell? ⟨gb177, 17, none⟩ = some (.slice A1_17 l1_17.length c1_17) := (blk_cell BK177.out 17).trans rfl
    have hcz20_18 : w5.cell? ⟨gb177, 18, none⟩ = some (.int .i64 a1_18) := (blk_cell BK177.out 18).trans rfl
    have hcz20_19 : w5.cell? ⟨gb177, 19, none⟩ = some (.int .i64 a1_19) := (blk_cell BK177.out 19).trans rfl
    have hfz20_0 := blk_frozen BK177.out 0
    have hfz20_1 := blk_frozen BK177.out 1
    have hfz20_2 := blk_frozen BK177.out 2
    have hfz20_3 := blk_frozen BK177.out 3
    have hfz20_4 := blk_frozen BK177.out 4
    have hfz20_5 := blk_frozen BK177.out 5
    have hfz20_6 := blk_frozen BK177.out 6
    have hfz20_7 := blk_frozen BK177.out 7
    have hfz20_8 := blk_frozen BK177.out 8
    have hfz20_9 := blk_frozen BK177.out 9
    have hfz20_10 := blk_frozen BK177.out 10
    have hfz20_11 := blk_frozen BK177.out 11
    have hfz20_12 := blk_frozen BK177.out 12
    have hfz20_13 := blk_frozen BK177.out 13
    have hfz20_14 := blk_frozen BK177.out 14
    have hfz20_15 := blk_frozen BK177.out 15
    have hfz20_16 := blk_frozen BK177.out 16
    have hfz20_17 := blk_frozen BK177.out 17
    have hfz20_18 := blk_frozen BK177.out 18
    have hfz20_19 := blk_frozen BK177.out 19
    go_wp2
    go_meet
    case rel => exact ⟨_, (false), (by first | rfl | (simp; done) | (simp [*]; done)), H', ⟨by first | omega | exact Nat.le_refl _⟩, ⟨by (with_reducible repeat (first | refine blk_drewN ?_ _ | refine blk_drew ?_ | refine blk_alloc ?_ _)); refine blk_far ?_ NB176_177.out _; (with_reducible repeat (first | refine blk_drewN ?_ _ | refine blk_drew ?_ | refine blk_alloc ?_ _)); refine blk_put (cs := #[.int .i64 a0_0, .int .i64 a0_1, .slice A0_2 l0_2.length c0_2, .slice A0_3 l0_3.length c0_3, .int .i64 a0_4, .int .i64 a0_5, .bool a0_6, .int .i64 a0_7, .int .i64 a0_8, .int .i64 a0_9, .bool a0_10, .bool a0_11, .bool a0_12, .slice A0_13 l0_13.length c0_13, .int .i64 a0_14, .int .i64 a0_15, .int .i64 a0_16, .slice A0_17 l0_17.length c0_17, .int .i64 a0_18, .int .i64 a0_19]) ?_ 3 _ rfl; (with_reducible repeat (first | refine blk_drewN ?_ _ | refine blk_drew ?_ | refine blk_alloc ?_ _)); exact BK176.out⟩, ⟨by (with_reducible repeat (first | refine blk_drewN ?_ _ | refine blk_drew ?_ | refine blk_alloc ?_ _)); refine blk_put (cs := #[.int .i64 a1_0, .int .i64 a1_1, .slice A1_2 l1_2.length c1_2, .slice A1_3 l1_3.length c1_3, .int .i64 a1_4, .int .i64 a1_5, .bool a1_6, .int .i64 a1_7, .int .i64 a1_8, .int .i64 a1_9, .bool a1_10, .bool a1_11, .bool a1_12, .slice A1_13 l1_13.length c1_13, .int .i64 a1_14, .int .i64 a1_15, .int .i64 a1_16, .slice A1_17 l1_17.length c1_17, .int .i64 a1_18, .int .i64 a1_19]) ?_ 3 _ rfl; (with_reducible repeat (first | refine blk_drewN ?_ _ | refine blk_drew ?_ | refine blk_alloc ?_ _)); refine blk_far ?_ NB177_176.out _; (with_reducible repeat (first | refine blk_drewN ?_ _ | refine blk_drew ?_ | refine blk_alloc ?_ _)); exact BK177.out⟩, ⟨by repeat (first | (with_reducible first | exact HB.out | apply below_alloc | apply pw_below_drewN | apply below_drew1 | refine below_set ?_ GE176.out | refine below_set ?_ GE177.out) | exact HB.out)⟩⟩
  ·rw [if_neg c9] at H
   have c9b0 : (a0_6 == a1_6) = false := by simpa using c9
   (try (have c9b1 : decide (a0_6 = a1_6) = false := by simpa using c9))
   (try (have c9b2 : (a0_6 == a1_6) = false := by simpa using c9))
   (try (have c9b3 : ¬ (a0_6 = a1_6) := by simpa using c9))
   clear c9
   (first | rw [c9b0] | (simp only [i64_w, i32_w]; rw [c9b0]) | skip)
   have H' := Aside0.mk H
   clear H
   have hnb21 := NB176_177.out
   have hnc21 := NB177_176.out
   have hcz22_0 : w5.cell? ⟨gb176, 0, none⟩ = some (.int .i64 a0_0) := (blk_cell BK176.out 0).trans rfl
   have hcz22_1 : w5.cell? ⟨gb176, 1, none⟩ = some (.int .i64 a0_1) := (blk_cell BK176.out 1).trans rfl
   have hcz22_2 : w5.cell? ⟨gb176, 2, none⟩ = some (.slice A0_2 l0_2.length c0_2) := (blk_cell BK176.out 2).trans rfl
   have hcz22_3 : w5.cell? ⟨gb176, 3, none⟩ = some (.slice A0_3 l0_3.length c0_3) := (blk_cell BK176.out 3).trans rfl
   have hcz22_4 : w5.cell? ⟨gb176, 4, none⟩ = some (.int .i64 a0_4) := (blk_cell BK176.out 4).trans rfl
   have hcz22_5 : w5.cell? ⟨gb176, 5, none⟩ = some (.int .i64 a0_5) := (blk_cell BK176.out 5).trans rfl
   have hcz22_6 : w5.cell? ⟨gb176, 6, none⟩ = some (.bool a0_6) := (blk_cell BK176.out 6).trans rfl
   have hcz22_7 : w5.cell? ⟨gb176, 7, none⟩ = some (.int .i64 a0_7) := (blk_cell BK176.out 7).trans rfl
   have hcz22_8 : w5.cell? ⟨gb176, 8, none⟩ = some (.int .i64 a0_8) := (blk_cell BK176.out 8).trans rfl
   have hcz22_9 : w5.cell? ⟨gb176, 9, none⟩ = some (.int .i64 a0_9) := (blk_cell BK176.out 9).trans rfl
   have hcz22_10 : w5.cell? ⟨gb176, 10, none⟩ = some (.bool a0_10) := (blk_cell BK176.out 10).trans rfl
   have hcz22_11 : w5.cell? ⟨gb176, 11, none⟩ = some (.bool a0_11) := (blk_cell BK176.out 11).trans rfl
   have hcz22_12 : w5.cell? ⟨gb176, 12, none⟩ = some (.bool a0_12) := (blk_cell BK176.out 12).trans rfl
   have hcz22_13 : w5.cell? ⟨gb176, 13, none⟩ = some (.slice A0_13 l0_13.length c0_13) := (blk_cell BK176.out 13).trans rfl
   have hcz22_14 : w5.cell? ⟨gb176, 14, none⟩ = some (.int .i64 a0_14) := (blk_cell BK176.out 14).trans rfl
   have hcz22_15 : w5.cell? ⟨gb176, 15, none⟩ = some (.int .i64 a0_15) := (blk_cell BK176.out 15).trans rfl
   have hcz22_16 : w5.cell? ⟨gb176, 16, none⟩ = some (.int .i64 a0_16) := (blk_cell BK176.out 16).trans rfl
   have hcz22_17 : w5.cell? ⟨gb176, 17, none⟩ = some (.slice A0_17 l0_17.length c0_17) := (blk_cell BK176.out 17).trans rfl
   have hcz22_18 : w5.cell? ⟨gb176, 18, none⟩ = some (.int .i64 a0_18) := (blk_cell BK176.out 18).trans rfl
   have hcz22_19 : w5.cell? ⟨gb176, 19, none⟩ = some (.int .i64 a0_19) := (blk_cell BK176.out 19).trans rfl
   have hfz22_0 := blk_frozen BK176.out 0
   have hfz22_1 := blk_frozen BK176.out 1
   have hfz22_2 := blk_frozen BK176.out 2
   have hfz22_3 := blk_frozen BK176.out 3
   have hfz22_4 := blk_frozen BK176.out 4
   have hfz22_5 := blk_frozen BK176.out 5
   have hfz22_6 := blk_frozen BK176.out 6
   have hfz22_7 := blk_frozen BK176.out 7
   have hfz22_8 := blk_frozen BK176.out 8
   have hfz22_9 := blk_frozen BK176.out 9
   have hfz22_10 := blk_frozen BK176.out 10
   have hfz22_11 := blk_frozen BK176.out 11
   have hfz22_12 := blk_frozen BK176.out 12
   have hfz22_13 := blk_frozen BK176.out 13
   have hfz22_14 := blk_frozen BK176.out 14
   have hfz22_15 := blk_frozen BK176.out 15
   have hfz22_16 := blk_frozen BK176.out 16
   have hfz22_17 := blk_frozen BK176.out 17
   have hfz22_18 := blk_frozen BK176.out 18
   have hfz22_19 := blk_frozen BK176.out 19
   have hcz23_0 : w5.cell? ⟨gb177, 0, none⟩ = some (.int .i64 a1_0) := (blk_cell BK177.out 0).trans rfl
   have hcz23_1 : w5.cell? ⟨gb177, 1, none⟩ = some (.int .i64 a1_1) := (blk_cell BK177.out 1).trans rfl
   have hcz23_2 : w5.cell? ⟨gb177, 2, none⟩ = some (.slice A1_2 l1_2.length c1_2) := (blk_cell BK177.out 2).trans rfl
   have hcz23_3 : w5.cell? ⟨gb177, 3, none⟩ = some (.slice A1_3 l1_3.length c1_3) := (blk_cell BK177.out 3).trans rfl
   have hcz23_4 : w5.cell? ⟨gb177, 4, none⟩ = some (.int .i64 a1_4) := (blk_cell BK177.out 4).trans rfl
   have hcz23_5 : w5.cell? ⟨gb177, 5, none⟩ = some (.int .i64 a1_5) := (blk_cell BK177.out 5).trans rfl
   have hcz23_6 : w5.cell? ⟨gb177, 6, none⟩ = some (.bool a1_6) := (blk_cell BK177.out 6).trans rfl
   have hcz23_7 : w5.cell? ⟨gb177, 7, none⟩ = some (.int .i64 a1_7) := (blk_cell BK177.out 7).trans rfl
   have hcz23_8 : w5.cell? ⟨gb177, 8, none⟩ = some (.int .i64 a1_8) := (blk_cell BK177.out 8).trans rfl
   have hcz23_9 : w5.cell? ⟨gb177, 9, none⟩ = some (.int .i64 a1_9) := (blk_cell BK177.out 9).trans rfl
   have hcz23_10 : w5.cell? ⟨gb177, 10, none⟩ = some (.bool a1_10) := (blk_cell BK177.out 10).trans rfl
   have hcz23_11 : w5.cell? ⟨gb177, 11, none⟩ = some (.bool a1_11) := (blk_cell BK177.out 11).trans rfl
   have hcz23_12 : w5.cell? ⟨gb177, 12, none⟩ = some (.bool a1_12) := (blk_cell BK177.out 12).trans rfl
   have hcz23_13 : w5.cell? ⟨gb177, 13, none⟩ = some (.slice A1_13 l1_13.length c1_13) := (blk_cell BK177.out 13).trans rfl
   have hcz23_14 : w5.cell? ⟨gb177, 14, none⟩ = some (.int .i64 a1_14) := (blk_cell BK177.out 14).trans rfl
   have hcz23_15 : w5.cell? ⟨gb177, 15, none⟩ = some (.int .i64 a1_15) := (blk_cell BK177.out 15).trans rfl
   have hcz23_16 : w5.cell? ⟨gb177, 16, none⟩ = some (.int .i64 a1_16) := (blk_cell BK177.out 16).trans rfl
   have hcz23_17 : w5.cell? ⟨gb177, 17, none⟩ = some (.slice A1_17 l1_17.length c1_17) := (blk_cell BK177.out 17).trans rfl
   have hcz23_18 : w5.cell? ⟨gb177, 18, none⟩ = some (.int .i64 a1_18) := (blk_cell BK177.out 18).trans rfl
   have hcz23_19 : w5.cell? ⟨gb177, 19, none⟩ = some (.int .i64 a1_19) := (blk_cell BK177.out 19).trans rfl
   have hfz23_0 := blk_frozen BK177.out 0
   have hfz23_1 := blk_frozen BK177.out 1
   have hfz23_2 := blk_frozen BK177.out 2
   have hfz23_3 := blk_frozen BK177.out 3
   have hfz23_4 := blk_frozen BK177.out 4
   have hfz23_5 := blk_frozen BK177.out 5
   have hfz23_6 := blk_frozen BK177.out 6
   have hfz23_7 := blk_frozen BK177.out 7
   have hfz23_8 := blk_frozen BK177.out 8
   have hfz23_9 := blk_frozen BK177.out 9
   have hfz23_10 := blk_frozen BK177.out 10
   have hfz23_11 := blk_frozen BK177.out 11
   have hfz23_12 := blk_frozen BK177.out 12
   have hfz23_13 := blk_frozen BK177.out 13
   have hfz23_14 := blk_frozen BK177.out 14
   have hfz23_15 := blk_frozen BK177.out 15
   have hfz23_16 := blk_frozen BK177.out 16
   have hfz23_17 := blk_frozen BK177.out 17
   have hfz23_18 := blk_frozen BK177.out 18
   have hfz23_19 := blk_frozen BK177.out 19
   go_wp2
   go_meet
   case rel => exact ⟨_, (false), (by first | rfl | (simp; done) | (simp [*]; done)), H', ⟨by first | omega | exact Nat.le_refl _⟩, ⟨by (with_reducible repeat (first | refine blk_drewN ?_ _ | refine blk_drew ?_ | refine blk_alloc ?_ _)); refine blk_far ?_ NB176_177.out _; (with_reducible repeat (first | refine blk_drewN ?_ _ | refine blk_drew ?_ | refine blk_alloc ?_ _)); refine blk_put (cs := #[.int .i64 a0_0, .int .i64 a0_1, .slice A0_2 l0_2.length c0_2, .slice A0_3 l0_3.length c0_3, .int .i64 a0_4, .int .i64 a0_5, .bool a0_6, .int .i64 a0_7, .int .i64 a0_8, .int .i64 a0_9, .bool a0_10, .bool a0_11, .bool a0_12, .slice A0_13 l0_13.length c0_13, .int .i64 a0_14, .int .i64 a0_15, .int .i64 a0_16, .slice A0_17 l0_17.length c0_17, .int .i64 a0_18, .int .i64 a0_19]) ?_ 3 _ rfl; (with_reducible repeat (first | refine blk_drewN ?_ _ | refine blk_drew ?_ | refine blk_alloc ?_ _)); exact BK176.out⟩, ⟨by (with_reducible repeat (first | refine blk_drewN ?_ _ | refine blk_drew ?_ | refine blk_alloc ?_ _)); refine blk_put (cs := #[.int .i64 a1_0, .int .i64 a1_1, .slice A1_2 l1_2.length c1_2, .slice A1_3 l1_3.length c1_3, .int .i64 a1_4, .int .i64 a1_5, .bool a1_6, .int .i64 a1_7, .int .i64 a1_8, .int .i64 a1_9, .bool a1_10, .bool a1_11, .bool a1_12, .slice A1_13 l1_13.length c1_13, .int .i64 a1_14, .int .i64 a1_15, .int .i64 a1_16, .slice A1_17 l1_17.length c1_17, .int .i64 a1_18, .int .i64 a1_19]) ?_ 3 _ rfl; (with_reducible repeat (first | refine blk_drewN ?_ _ | refine blk_drew ?_ | refine blk_alloc ?_ _)); refine blk_far ?_ NB177_176.out _; (with_reducible repeat (first | refine blk_drewN ?_ _ | refine blk_drew ?_ | refine blk_alloc ?_ _)); exact BK177.out⟩, ⟨by repeat (first | (with_reducible first | exact HB.out | apply below_alloc | apply pw_below_drewN | apply below_drew1 | refine below_set ?_ GE176.out | refine below_set ?_ GE177.out) | exact HB.out)⟩⟩
 case rest =>
  clear HC3
  try clear c1
  try clear c2
  try clear p2
  try clear c4
  try clear c6
  try clear c9
  try clear c9b0
  try clear c9b1
  try clear c9b2
  try clear c10
  try clear c10b0
  try clear c10b1
  try clear c10b2
  try clear c11
  try clear c11b0
  try clear c11b1
  try clear c11b2
  try clear c12
  try clear c15
  try clear c18
  try clear c21
  try clear hcz13_0
  try clear hcz13_1
  try clear hcz13_10
  try clear hcz13_11
  try clear hcz13_12
  try clear hcz13_13
  try clear hcz13_14
  try clear hcz13_15
  try clear hcz13_16
  try clear hcz13_17
  try clear hcz13_18
  try clear hcz13_19
  try clear hcz13_2
  try clear hcz13_3
  try clear hcz13_4
  try clear hcz13_5
  try clear hcz13_6
  try clear hcz13_7
  try clear hcz13_8
  try clear hcz13_9
  try clear hcz14_0
  try clear hcz14_1
  try clear hcz14_10
  try clear hcz14_11
  try clear hcz14_12
  try clear hcz14_13
  try clear hcz14_14
  try clear hcz14_15
  try clear hcz14_16
  try clear hcz14_17
  try clear hcz14_18
  try clear hcz14_19
  try clear hcz14_2
  try clear hcz14_3
  try clear hcz14_4
  try clear hcz14_5
  try clear hcz14_6
  try clear hcz14_7
  try clear hcz14_8
  try clear hcz14_9
  try clear hcz16_0
  try clear hcz16_1
  try clear hcz16_10
  try clear hcz16_11
  try clear hcz16_12
  try clear hcz16_13
  try clear hcz16_14
  try clear hcz16_15
  try clear hcz16_16
  try clear hcz16_17
  try clear hcz16_18
  try clear hcz16_19
  try clear hcz16_2
  try clear hcz16_3
  try clear hcz16_4
  try clear hcz16_5
  try clear hcz16_6
  try clear hcz16_7
  try clear hcz16_8
  try clear hcz16_9
  try clear hcz17_0
  try clear hcz17_1
  try clear hcz17_10
  try clear hcz17_11
  try clear hcz17_12
  try clear hcz17_13
  try clear hcz17_14
  try clear hcz17_15
  try clear hcz17_16
  try clear hcz17_17
  try clear hcz17_18
  try clear hcz17_19
  try clear hcz17_2
  try clear hcz17_3
  try clear hcz17_4
  try clear hcz17_5
  try clear hcz17_6
  try clear hcz17_7
  try clear hcz17_8
  try clear hcz17_9
  try clear hcz19_0
  try clear hcz19_1
  try clear hcz19_10
  try clear hcz19_11
  try clear hcz19_12
  try clear hcz19_13
  try clear hcz19_14
  try clear hcz19_15
  try clear hcz19_16
  try clear hcz19_17
  try clear hcz19_18
  try clear hcz19_19
  try clear hcz19_2
  try clear hcz19_3
  try clear hcz19_4
  try clear hcz19_5
  try clear hcz19_6
  try clear hcz19_7
  try clear hcz19_8
  try clear hcz19_9
  try clear hcz20_0
  try clear hcz20_1
  try clear hcz20_10
  try clear hcz20_11
  try clear hcz20_12
  try clear hcz20_13
  try clear hcz20_14
  try clear hcz20_15
  try clear hcz20_16
  try clear hcz20_17
  try clear hcz20_18
  try clear hcz20_19
  try clear hcz20_2
  try clear hcz20_3
  try clear hcz20_4
  try clear hcz20_5
  try clear hcz20_6
  try clear hcz20_7
  try clear hcz20_8
  try clear hcz20_9
  try clear hcz22_0
  try clear hcz22_1
  try clear hcz22_10
  try clear hcz22_11
  try clear hcz22_12
  try clear hcz22_13
  try clear hcz22_14
  try clear hcz22_15
  try clear hcz22_16
  try clear hcz22_17
  try clear hcz22_18
  try clear hcz22_19
  try clear hcz22_2
  try clear hcz22_3
  try clear hcz22_4
  try clear hcz22_5
  try clear hcz22_6
  try clear hcz22_7
  try clear hcz22_8
  try clear hcz22_9
  try clear hcz23_0
  try clear hcz23_1
  try clear hcz23_10
  try clear hcz23_11
  try clear hcz23_12
  try clear hcz23_13
  try clear hcz23_14
  try clear hcz23_15
  try clear hcz23_16
  try clear hcz23_17
  try clear hcz23_18
  try clear hcz23_19
  try clear hcz23_2
  try clear hcz23_3
  try clear hcz23_4
  try clear hcz23_5
  try clear hcz23_6
  try clear hcz23_7
  try clear hcz23_8
  try clear hcz23_9
  try clear hcz7_0
  try clear hcz7_1
  try clear hcz7_10
  try clear hcz7_11
  try clear hcz7_12
  try clear hcz7_13
  try clear hcz7_14
  try clear hcz7_15
  try clear hcz7_16
  try clear hcz7_17
  try clear hcz7_18
  try clear hcz7_19
  try clear hcz7_2
  try clear hcz7_3
  try clear hcz7_4
  try clear hcz7_5
  try clear hcz7_6
  try clear hcz7_7
  try clear hcz7_8
  try clear hcz7_9
  try clear hcz8_0
  try clear hcz8_1
  try clear hcz8_10
  try clear hcz8_11
  try clear hcz8_12
  try clear hcz8_13
  try clear hcz8_14
  try clear hcz8_15
  try clear hcz8_16
  try clear hcz8_17
  try clear hcz8_18
  try clear hcz8_19
  try clear hcz8_2
  try clear hcz8_3
  try clear hcz8_4
  try clear hcz8_5
  try clear hcz8_6
  try clear hcz8_7
  try clear hcz8_8
  try clear hcz8_9
  try clear hfz13_0
  try clear hfz13_1
  try clear hfz13_10
  try clear hfz13_11
  try clear hfz13_12
  try clear hfz13_13
  try clear hfz13_14
  try clear hfz13_15
  try clear hfz13_16
  try clear hfz13_17
  try clear hfz13_18
  try clear hfz13_19
  try clear hfz13_2
  try clear hfz13_3
  try clear hfz13_4
  try clear hfz13_5
  try clear hfz13_6
  try clear hfz13_7
  try clear hfz13_8
  try clear hfz13_9
  try clear hfz14_0
  try clear hfz14_1
  try clear hfz14_10
  try clear hfz14_11
  try clear hfz14_12
  try clear hfz14_13
  try clear hfz14_14
  try clear hfz14_15
  try clear hfz14_16
  try clear hfz14_17
  try clear hfz14_18
  try clear hfz14_19
  try clear hfz14_2
  try clear hfz14_3
  try clear hfz14_4
  try clear hfz14_5
  try clear hfz14_6
  try clear hfz14_7
  try clear hfz14_8
  try clear hfz14_9
  try clear hfz16_0
  try clear hfz16_1
  try clear hfz16_10
  try clear hfz16_11
  try clear hfz16_12
  try clear hfz16_13
  try clear hfz16_14
  try clear hfz16_15
  try clear hfz16_16
  try clear hfz16_17
  try clear hfz16_18
  try clear hfz16_19
  try clear hfz16_2
  try clear hfz16_3
  try clear hfz16_4
  try clear hfz16_5
  try clear hfz16_6
  try clear hfz16_7
  try clear hfz16_8
  try clear hfz16_9
  try clear hfz17_0
  try clear hfz17_1
  try clear hfz17_10
  try clear hfz17_11
  try clear hfz17_12
  try clear hfz17_13
  try clear hfz17_14
  try clear hfz17_15
  try clear hfz17_16
  try clear hfz17_17
  try clear hfz17_18
  try clear hfz17_19
  try clear hfz17_2
  try clear hfz17_3
  try clear hfz17_4
  try clear hfz17_5
  try clear hfz17_6
  try clear hfz17_7
  try clear hfz17_8
  try clear hfz17_9
  try clear hfz19_0
  try clear hfz19_1
  try clear hfz19_10
  try clear hfz19_11
  try clear hfz19_12
  try clear hfz19_13
  try clear hfz19_14
  try clear hfz19_15
  try clear hfz19_16
  try clear hfz19_17
  try clear hfz19_18
  try clear hfz19_19
  try clear hfz19_2
  try clear hfz19_3
  try clear hfz19_4
  try clear hfz19_5
  try clear hfz19_6
  try clear hfz19_7
  try clear hfz19_8
  try clear hfz19_9
  try clear hfz20_0
  try clear hfz20_1
  try clear hfz20_10
  try clear hfz20_11
  try clear hfz20_12
  try clear hfz20_13
  try clear hfz20_14
  try clear hfz20_15
  try clear hfz20_16
  try clear hfz20_17
  try clear hfz20_18
  try clear hfz20_19
  try clear hfz20_2
  try clear hfz20_3
  try clear hfz20_4
  try clear hfz20_5
  try clear hfz20_6
  try clear hfz20_7
  try clear hfz20_8
  try clear hfz20_9
  try clear hfz22_0
  try clear hfz22_1
  try clear hfz22_10
  try clear hfz22_11
  try clear hfz22_12
  try clear hfz22_13
  try clear hfz22_14
  try clear hfz22_15
  try clear hfz22_16
  try clear hfz22_17
  try clear hfz22_18
  try clear hfz22_19
  try clear hfz22_2
  try clear hfz22_3
  try clear hfz22_4
  try clear hfz22_5
  try clear hfz22_6
  try clear hfz22_7
  try clear hfz22_8
  try clear hfz22_9
  try clear hfz23_0
  try clear hfz23_1
  try clear hfz23_10
  try clear hfz23_11
  try clear hfz23_12
  try clear hfz23_13
  try clear hfz23_14
  try clear hfz23_15
  try clear hfz23_16
  try clear hfz23_17
  try clear hfz23_18
  try clear hfz23_19
  try clear hfz23_2
  try clear hfz23_3
  try clear hfz23_4
  try clear hfz23_5
  try clear hfz23_6
  try clear hfz23_7
  try clear hfz23_8
  try clear hfz23_9
  try clear hfz7_0
  try clear hfz7_1
  try clear hfz7_10
  try clear hfz7_11
  try clear hfz7_12
  try clear hfz7_13
  try clear hfz7_14
  try clear hfz7_15
  try clear hfz7_16
  try clear hfz7_17
  try clear hfz7_18
  try clear hfz7_19
  try clear hfz7_2
  try clear hfz7_3
  try clear hfz7_4
  try clear hfz7_5
  try clear hfz7_6
  try clear hfz7_7
  try clear hfz7_8
  try clear hfz7_9
  try clear hfz8_0
  try clear hfz8_1
  try clear hfz8_10
  try clear hfz8_11
  try clear hfz8_12
  try clear hfz8_13
  try clear hfz8_14
  try clear hfz8_15
  try clear hfz8_16
  try clear hfz8_17
  try clear hfz8_18
  try clear hfz8_19
  try clear hfz8_2
  try clear hfz8_3
  try clear hfz8_4
  try clear hfz8_5
  try clear hfz8_6
  try clear hfz8_7
  try clear hfz8_8
  try clear hfz8_9
  obtain ⟨kq, x5_2, rfl, HA, HJ2, BK176, BK177, HB⟩ := hcut
  cases kq with
  | zero => exact absurd HA.out (by simp [impl_SameShown.j0])
  | succ kj2 =>
   have H := HA.out
   clear HA
   simp only [impl_SameShown.j0] at H
   have HC24 := Aside0.mk H
   clear H
   go_upto_region 3 with (fail)
   go_cut [6] (fun v6 wc => ∃ (kq : Nat) (x6_23 : Bool), v6 = .bool x6_23 ∧ Aside0 (impl_SameShown.j1 kq x5_2 x6_23 a0_0 a0_1 l0_2 a0_4 a0_5 a0_6 a0_7 a0_8 a0_9 a0_10 a0_11 a0_12 l0_13 a0_14 a0_15 a0_16 l0_17 a0_18 a0_19 a1_0 a1_1 l1_2 a1_4 a1_5 a1_6 a1_7 a1_8 a1_9 a1_10 a1_11 a1_12 l1_13 a1_14 a1_15 a1_16 l1_17 a1_18 a1_19 = some r) ∧ Aside0 (kq ≤ kj2) ∧ Aside0 (wc.heap[gb176]? = some (.cells #[.int .i64 a0_0, .int .i64 a0_1, (.slice A0_2 l0_2.length c0_2), (.slice none 0 0), .int .i64 a0_4, .int .i64 a0_5, .bool a0_6, .int .i64 a0_7, .int .i64 a0_8, .int .i64 a0_9, .bool a0_10, .bool a0_11, .bool a0_12, (.slice A0_13 l0_13.length c0_13), .int .i64 a0_14, .int .i64 a0_15, .int .i64 a0_16, (.slice A0_17 l0_17.length c0_17), .int .i64 a0_18, .int .i64 a0_19] 64 (0, 0))) ∧ Aside0 (wc.heap[gb177]? = some (.cells #[.int .i64 a1_0, .int .i64 a1_1, (.slice A1_2 l1_2.length c1_2), (.slice none 0 0), .int .i64 a1_4, .int .i64 a1_5, .bool a1_6, .int .i64 a1_7, .int .i64 a1_8, .int .i64 a1_9, .bool a1_10, .bool a1_11, .bool a1_12, (.slice A1_13 l1_13.length c1_13), .int .i64 a1_14, .int .i64 a1_15, .int .i64 a1_16, (.slice A1_17 l1_17.length c1_17), .int .i64 a1_18, .int .i64 a1_19] 64 (0, 0))) ∧ Aside0 (Below w.heap.size w wc))
   case first =>
    have H := HC24.out
    clear HC24
    by_cases c25 : a0_4 = a1_4
    ·rw [if_pos c25] at H
     have c25b0 : (a0_4 == a1_4) = true := beq_iff_eq.mpr c25
     have c25b1 : (a0_4 != a1_4) = false := bne_eq_false_iff_eq.mpr c25
     clear c25
     (first | rw [c25b0] | (simp only [i64_w, i32_w]; rw [c25b0]) | skip)
     by_cases c26 : a0_5 = a1_5
     ·rw [if_pos c26] at H
      have c26b0 : (a0_5 == a1_5) = true := beq_iff_eq.mpr c26
      have c26b1 : (a0_5 != a1_5) = false := bne_eq_false_iff_eq.mpr c26
      clear c26
      by_cases c27 : a0_7 = a1_7
      ·rw [if_pos c27] at H
       have c27b0 : (a0_7 == a1_7) = true := beq_iff_eq.mpr c27
       have c27b1 : (a0_7 != a1_7) = false := bne_eq_false_iff_eq.mpr c27
       clear c27
       by_cases c28 : a0_8 = a1_8
       ·rw [if_pos c28] at H
        have c28b0 : (a0_8 == a1_8) = true := beq_iff_eq.mpr c28
        have c28b1 : (a0_8 != a1_8) = false := bne_eq_false_iff_eq.mpr c28
        clear c28
        by_cases c29 : a0_9 = a1_9
        ·rw [if_pos c29] at H
         have c29b0 : (a0_9 == a1_9) = true := beq_iff_eq.mpr c29
         have c29b1 : (a0_9 != a1_9) = false := bne_eq_false_iff_eq.mpr c29
         clear c29
         have H' := Aside0.mk H
         clear H
         have hnb30 := NB176_177.out
         have hnc30 := NB177_176.out
         have hcz31_0 : wc.cell? ⟨gb176, 0, none⟩ = some (.int .i64 a0_0) := (blk_cell BK176.out 0).trans rfl
         have hcz31_1 : wc.cell? ⟨gb176, 1, none⟩ = some (.int .i64 a0_1) := (blk_cell BK176.out 1).trans rfl
         have hcz31_2 : wc.cell? ⟨gb176, 2, none⟩ = some (.slice A0_2 l0_2.length c0_2) := (blk_cell BK176.out 2).trans rfl
         have hcz31_3 : wc.cell? ⟨gb176, 3, none⟩ = some (.slice none 0 0) := (blk_cell BK176.out 3).trans rfl
         have hcz31_4 : wc.cell? ⟨gb176, 4, none⟩ = some (.int .i64 a0_4) := (blk_cell BK176.out 4).trans rfl
         have hcz31_5 : wc.cell? ⟨gb176, 5, none⟩ = some (.int .i64 a0_5) := (blk_cell BK176.out 5).trans rfl
         have hcz31_6 : wc.cell? ⟨gb176, 6, none⟩ = some (.bool a0_6) := (blk_cell BK176.out 6).trans rfl
         have hcz31_7 : wc.cell? ⟨gb176, 7, none⟩ = some (.int .i64 a0_7) := (blk_cell BK176.out 7).trans rfl
         have hcz31_8 : wc.cell? ⟨gb176, 8, none⟩ = some (.int .i64 a0_8) := (blk_cell BK176.out 8).trans rfl
         have hcz31_9 : wc.cell? ⟨gb176, 9, none⟩ = some (.int .i64 a0_9) := (blk_cell BK176.out 9).trans rfl
         have hcz31_10 : wc.cell? ⟨gb176, 10, none⟩ = some (.bool a0_10) := (blk_cell BK176.out 10).trans rfl
         have hcz31_11 : wc.cell? ⟨gb176, 11, none⟩ = some (.bool a0_11) := (blk_cell BK176.out 11).trans rfl
         have hcz31_12 : wc.cell? ⟨gb176, 12, none⟩ = some (.bool a0_12) := (blk_cell BK176.out 12).trans rfl
         have hcz31_13 : wc.cell? ⟨gb176, 13, none⟩ = some (.slice A0_13 l0_13.length c0_13) := (blk_cell BK176.out 13).trans rfl
         have hcz31_14 : wc.cell? ⟨gb176, 14, none⟩ = some (.int .i64 a0_14) := (blk_cell BK176.out 14).trans rfl
         have hcz31_15 : wc.cell? ⟨gb176, 15, none⟩ = some (.int .i64 a0_15) := (blk_cell BK176.out 15).trans rfl
         have hcz31_16 : wc.cell? ⟨gb176, 16, none⟩ = some (.int .i64 a0_16) := (blk_cell BK176.out 16).trans rfl
         have hcz31_17 : wc.cell? ⟨gb176, 17, none⟩ = some (.slice A0_17 l0_17.length c0_17) := (blk_cell BK176.out 17).trans rfl
         have hcz31_18 : wc.cell? ⟨gb176, 18, none⟩ = some (.int .i64 a0_18) := (blk_cell BK176.out 18).trans rfl
         have hcz31_19 : wc.cell? ⟨gb176, 19, none⟩ = some (.int .i64 a0_19) := (blk_cell BK176.out 19).trans rfl
         have hfz31_0 := blk_frozen BK176.out 0
         have hfz31_1 := blk_frozen BK176.out 1
         have hfz31_2 := blk_frozen BK176.out 2
         have hfz31_3 := blk_frozen BK176.out 3
         have hfz31_4 := blk_frozen BK176.out 4
         have hfz31_5 := blk_frozen BK176.out 5
         have hfz31_6 := blk_frozen BK176.out 6
         have hfz31_7 := blk_frozen BK176.out 7
         have hfz31_8 := blk_frozen BK176.out 8
         have hfz31_9 := blk_frozen BK176.out 9
         have hfz31_10 := blk_frozen BK176.out 10
         have hfz31_11 := blk_frozen BK176.out 11
         have hfz31_12 := blk_frozen BK176.out 12
         have hfz31_13 := blk_frozen BK176.out 13
         have hfz31_14 := blk_frozen BK176.out 14
         have hfz31_15 := blk_frozen BK176.out 15
         have hfz31_16 := blk_frozen BK176.out 16
         have hfz31_17 := blk_frozen BK176.out 17
         have hfz31_18 := blk_frozen BK176.out 18
         have hfz31_19 := blk_frozen BK176.out 19
         have hcz32_0 : wc.cell? ⟨gb177, 0, none⟩ = some (.int .i64 a1_0) := (blk_cell BK177.out 0).trans rfl
         have hcz32_1 : wc.cell? ⟨gb177, 1, none⟩ = some (.int .i64 a1_1) := (blk_cell BK177.out 1).trans rfl
         have hcz32_2 : wc.cell? ⟨gb177, 2, none⟩ = some (.slice A1_2 l1_2.length c1_2) := (blk_cell BK177.out 2).trans rfl
         have hcz32_3 : wc.cell? ⟨gb177, 3, none⟩ = some (.slice none 0 0) := (blk_cell BK177.out 3).trans rfl
         have hcz32_4 : wc.cell? ⟨gb177, 4, none⟩ = some (.int .i64 a1_4) := (blk_cell BK177.out 4).trans rfl
         have hcz32_5 : wc.cell? ⟨gb177, 5, none⟩ = some (.int .i64 a1_5) := (blk_cell BK177.out 5).trans rfl
         have hcz32_6 : wc.cell? ⟨gb177, 6, none⟩ = some (.bool a1_6) := (blk_cell BK177.out 6).trans rfl
         have hcz32_7 : wc.cell? ⟨gb177, 7, none⟩ = some (.int .i64 a1_7) := (blk_cell BK177.out 7).trans rfl
         have hcz32_8 : wc.cell? ⟨gb177, 8, none⟩ = some (.int .i64 a1_8) := (blk_cell BK177.out 8).trans rfl
         have hcz32_9 : wc.cell? ⟨gb177, 9, none⟩ = some (.int .i64 a1_9) := (blk_cell BK177.out 9).trans rfl
         have hcz32_10 : wc.cell? ⟨gb177, 10, none⟩ = some (.bool a1_10) := (blk_cell BK177.out 10).trans rfl
         have hcz32_11 : wc.cell? ⟨gb177, 11, none⟩ = some (.bool a1_11) := (blk_cell BK177.out 11).trans rfl
         have hcz32_12 : wc.cell? ⟨gb177, 12, none⟩ = some (.bool a1_12) := (blk_cell BK177.out 12).trans rfl
         have hcz32_13 : wc.cell? ⟨gb177, 13, none⟩ = some (.slice A1_13 l1_13.length c1_13) := (blk_cell BK177.out 13).trans rfl
         have hcz32_14 : wc.cell? ⟨gb177, 14, none⟩ = some (.int .i64 a1_14) := (blk_cell BK177.out 14).trans rfl
         have hcz32_15 : wc.cell? ⟨gb177, 15, none⟩ = some (.int .i64 a1_15) := (blk_cell BK177.out 15).trans rfl
         have hcz32_16 : wc.cell? ⟨gb177, 16, none⟩ = some (.int .i64 a1_16) := (blk_cell BK177.out 16).trans rfl
         have hcz32_17 : wc.cell? ⟨gb177, 17, none⟩ = some (.slice A1_17 l1_17.length c1_17) := (blk_cell BK177.out 17).trans rfl
         have hcz32_18 : wc.cell? ⟨gb177, 18, none⟩ = some (.int .i64 a1_18) := (blk_cell BK177.out 18).trans rfl
         have hcz32_19 : wc.cell? ⟨gb177, 19, none⟩ = some (.int .i64 a1_19) := (blk_cell BK177.out 19).trans rfl
         have hfz32_0 := blk_frozen BK177.out 0
         have hfz32_1 := blk_frozen BK177.out 1
         have hfz32_2 := blk_frozen BK177.out 2
         have hfz32_3 := blk_frozen BK177.out 3
         have hfz32_4 := blk_frozen BK177.out 4
         have hfz32_5 := blk_frozen BK177.out 5
         have hfz32_6 := blk_frozen BK177.out 6
         have hfz32_7 := blk_frozen BK177.out 7
         have hfz32_8 := blk_frozen BK177.out 8
         have hfz32_9 := blk_frozen BK177.out 9
         have hfz32_10 := blk_frozen BK177.out 10
         have hfz32_11 := blk_frozen BK177.out 11
         have hfz32_12 := blk_frozen BK177.out 12
         have hfz32_13 := blk_frozen BK177.out 13
         have hfz32_14 := blk_frozen BK177.out 14
         have hfz32_15 := blk_frozen BK177.out 15
         have hfz32_16 := blk_frozen BK177.out 16
         have hfz32_17 := blk_frozen BK177.out 17
         have hfz32_18 := blk_frozen BK177.out 18
         have hfz32_19 := blk_frozen BK177.out 19
         go_wp2
         go_meet
         case rel => exact ⟨_, ((a0_18 == a1_18)), (by first | rfl | (simp; done) | (simp [*]; done)), H', ⟨by have := HJ2.out; first | omega | exact Nat.le_refl _⟩, ⟨by (with_reducible repeat (first | refine blk_drewN ?_ _ | refine blk_drew ?_ | refine blk_alloc ?_ _)); exact BK176.out⟩, ⟨by (with_reducible repeat (first | refine blk_drewN ?_ _ | refine blk_drew ?_ | refine blk_alloc ?_ _)); exact BK177.out⟩, ⟨by repeat (first | (with_reducible first | exact HB.out | apply below_alloc | apply pw_below_drewN | apply below_drew1 | refine below_set ?_ GE176.out | refine below_set ?_ GE177.out) | exact HB.out)⟩⟩
        ·rw [if_neg c29] at H
         have c29b0 : (a0_9 == a1_9) = false := beq_eq_false_iff_ne.mpr c29
         have c29b1 : (a0_9 != a1_9) = true := bne_iff_ne.mpr c29
         have H' := Aside0.mk H
         clear H
         have hnb33 := NB176_177.out
         have hnc33 := NB177_176.out
         have hcz34_0 : wc.cell? ⟨gb176, 0, none⟩ = some (.int .i64 a0_0) := (blk_cell BK176.out 0).trans rfl
         have hcz34_1 : wc.cell? ⟨gb176, 1, none⟩ = some (.int .i64 a0_1) := (blk_cell BK176.out 1).trans rfl
         have hcz34_2 : wc.cell? ⟨gb176, 2, none⟩ = some (.slice A0_2 l0_2.length c0_2) := (blk_cell BK176.out 2).trans rfl
         have hcz34_3 : wc.cell? ⟨gb176, 3, none⟩ = some (.slice none 0 0) := (blk_cell BK176.out 3).trans rfl
         have hcz34_4 : wc.cell? ⟨gb176, 4, none⟩ = some (.int .i64 a0_4) := (blk_cell BK176.out 4).trans rfl
         have hcz34_5 : wc.cell? ⟨gb176, 5, none⟩ = some (.int .i64 a0_5) := (blk_cell BK176.out 5).trans rfl
         have hcz34_6 : wc.cell? ⟨gb176, 6, none⟩ = some (.bool a0_6) := (blk_cell BK176.out 6).trans rfl
         have hcz34_7 : wc.cell? ⟨gb176, 7, none⟩ = some (.int .i64 a0_7) := (blk_cell BK176.out 7).trans rfl
         have hcz34_8 : wc.cell? ⟨gb176, 8, none⟩ = some (.int .i64 a0_8) := (blk_cell BK176.out 8).trans rfl
         have hcz34_9 : wc.cell? ⟨gb176, 9, none⟩ = some (.int .i64 a0_9) := (blk_cell BK176.out 9).trans rfl
         have hcz34_10 : wc.cell? ⟨gb176, 10, none⟩ = some (.bool a0_10) := (blk_cell BK176.out 10).trans rfl
         have hcz34_11 : wc.cell? ⟨gb176, 11, none⟩ = some (.bool a0_11) := (blk_cell BK176.out 11).trans rfl
         have hcz34_12 : wc.cell? ⟨gb176, 12, none⟩ = some (.bool a0_12) := (blk_cell BK176.out 12).trans rfl
         have hcz34_13 : wc.cell? ⟨gb176, 13, none⟩ = some (.slice A0_13 l0_13.length c0_13) := (blk_cell BK176.out 13).trans rfl
         have hcz34_14 : wc.cell? ⟨gb176, 14, none⟩ = some (.int .i64 a0_14) := (blk_cell BK176.out 14).trans rfl
         have hcz34_15 : wc.cell? ⟨gb176, 15, none⟩ = some (.int .i64 a0_15) := (blk_cell BK176.out 15).trans rfl
         have hcz34_16 : wc.cell? ⟨gb176, 16, none⟩ = some (.int .i64 a0_16) := (blk_cell BK176.out 16).trans rfl
         have hcz34_17 : wc.cell? ⟨gb176, 17, none⟩ = some (.slice A0_17 l0_17.length c0_17) := (blk_cell BK176.out 17).trans rfl
         have hcz34_18 : wc.cell? ⟨gb176, 18, none⟩ = some (.int .i64 a0_18) := (blk_cell BK176.out 18).trans rfl
         have hcz34_19 : wc.cell? ⟨gb176, 19, none⟩ = some (.int .i64 a0_19) := (blk_cell BK176.out 19).trans rfl
         have hfz34_0 := blk_frozen BK176.out 0
         have hfz34_1 := blk_frozen BK176.out 1
         have hfz34_2 := blk_frozen BK176.out 2
         have hfz34_3 := blk_frozen BK176.out 3
         have hfz34_4 := blk_frozen BK176.out 4
         have hfz34_5 := blk_frozen BK176.out 5
         have hfz34_6 := blk_frozen BK176.out 6
         have hfz34_7 := blk_frozen BK176.out 7
         have hfz34_8 := blk_frozen BK176.out 8
         have hfz34_9 := blk_frozen BK176.out 9
         have hfz34_10 := blk_frozen BK176.out 10
         have hfz34_11 := blk_frozen BK176.out 11
         have hfz34_12 := blk_frozen BK176.out 12
         have hfz34_13 := blk_frozen BK176.out 13
         have hfz34_14 := blk_frozen BK176.out 14
         have hfz34_15 := blk_frozen BK176.out 15
         have hfz34_16 := blk_frozen BK176.out 16
         have hfz34_17 := blk_frozen BK176.out 17
         have hfz34_18 := blk_frozen BK176.out 18
         have hfz34_19 := blk_frozen BK176.out 19
         have hcz35_0 : wc.cell? ⟨gb177, 0, none⟩ = some (.int .i64 a1_0) := (blk_cell BK177.out 0).trans rfl
         have hcz35_1 : wc.cell? ⟨gb177, 1, none⟩ = some (.int .i64 a1_1) := (blk_cell BK177.out 1).trans rfl
         have hcz35_2 : wc.cell? ⟨gb177, 2, none⟩ = some (.slice A1_2 l1_2.length c1_2) := (blk_cell BK177.out 2).trans rfl
         have hcz35_3 : wc.cell? ⟨gb177, 3, none⟩ = some (.slice none 0 0) := (blk_cell BK177.out 3).trans rfl
         have hcz35_4 : wc.cell? ⟨gb177, 4, none⟩ = some (.int .i64 a1_4) := (blk_cell BK177.out 4).trans rfl
         have hcz35_5 : wc.cell? ⟨gb177, 5, none⟩ = some (.int .i64 a1_5) := (blk_cell BK177.out 5).trans rfl
         have hcz35_6 : wc.cell? ⟨gb177, 6, none⟩ = some (.bool a1_6) := (blk_cell BK177.out 6).trans rfl
         have hcz35_7 : wc.cell? ⟨gb177, 7, none⟩ = some (.int .i64 a1_7) := (blk_cell BK177.out 7).trans rfl
         have hcz35_8 : wc.cell? ⟨gb177, 8, none⟩ = some (.int .i64 a1_8) := (blk_cell BK177.out 8).trans rfl
         have hcz35_9 : wc.cell? ⟨gb177, 9, none⟩ = some (.int .i64 a1_9) := (blk_cell BK177.out 9).trans rfl
         have hcz35_10 : wc.cell? ⟨gb177, 10, none⟩ = some (.bool a1_10) := (blk_cell BK177.out 10).trans rfl
         have hcz35_11 : wc.cell? ⟨gb177, 11, none⟩ = some (.bool a1_11) := (blk_cell BK177.out 11).trans rfl
         have hcz35_12 : wc.cell? ⟨gb177, 12, none⟩ = some (.bool a1_12) := (blk_cell BK177.out 12).trans rfl
         have hcz35_13 : wc.cell? ⟨gb177, 13, none⟩ = some (.slice A1_13 l1_13.length c1_13) := (blk_cell BK177.out 13).trans rfl
         have hcz35_14 : wc.cell? ⟨gb177, 14, none⟩ = some (.int .i64 a1_14) := (blk_cell BK177.out 14).trans rfl
         have hcz35_15 : wc.cell? ⟨gb177, 15, none⟩ = some (.int .i64 a1_15) := (blk_cell BK177.out 15).trans rfl
         have hcz35_16 : wc.cell? ⟨gb177, 16, none⟩ = some (.int .i64 a1_16) := (blk_cell BK177.out 16).trans rfl
         have hcz35_17 : wc.cell? ⟨gb177, 17, none⟩ = some (.slice A1_17 l1_17.length c1_17) := (blk_cell BK177.out 17).trans rfl
         have hcz35_18 : wc.cell? ⟨gb177, 18, none⟩ = some (.int .i64 a1_18) := (blk_cell BK177.out 18).trans rfl
         have hcz35_19 : wc.cell? ⟨gb177, 19, none⟩ = some (.int .i64 a1_19) := (blk_cell BK177.out 19).trans rfl
         have hfz35_0 := blk_frozen BK177.out 0
         have hfz35_1 := blk_frozen BK177.out 1
         have hfz35_2 := blk_frozen BK177.out 2
         have hfz35_3 := blk_frozen BK177.out 3
         have hfz35_4 := blk_frozen BK177.out 4
         have hfz35_5 := blk_frozen BK177.out 5
         have hfz35_6 := blk_frozen BK177.out 6
         have hfz35_7 := blk_frozen BK177.out 7
         have hfz35_8 := blk_frozen BK177.out 8
         have hfz35_9 := blk_frozen BK177.out 9
         have hfz35_10 := blk_frozen BK177.out 10
         have hfz35_11 := blk_frozen BK177.out 11
         have hfz35_12 := blk_frozen BK177.out 12
         have hfz35_13 := blk_frozen BK177.out 13
         have hfz35_14 := blk_frozen BK177.out 14
         have hfz35_15 := blk_frozen BK177.out 15
         have hfz35_16 := blk_frozen BK177.out 16
         have hfz35_17 := blk_frozen BK177.out 17
         have hfz35_18 := blk_frozen BK177.out 18
         have hfz35_19 := blk_frozen BK177.out 19
         go_wp2
         go_meet
         case rel => exact ⟨_, (false), (by first | rfl | (simp; done) | (simp [*]; done)), H', ⟨by have := HJ2.out; first | omega | exact Nat.le_refl _⟩, ⟨by (with_reducible repeat (first | refine blk_drewN ?_ _ | refine blk_drew ?_ | refine blk_alloc ?_ _)); exact BK176.out⟩, ⟨by (with_reducible repeat (first | refine blk_drewN ?_ _ | refine blk_drew ?_ | refine blk_alloc ?_ _)); exact BK177.out⟩, ⟨by repeat (first | (with_reducible first | exact HB.out | apply below_alloc | apply pw_below_drewN | apply below_drew1 | refine below_set ?_ GE176.out | refine below_set ?_ GE177.out) | exact HB.out)⟩⟩
       ·rw [if_neg c28] at H
        have c28b0 : (a0_8 == a1_8) = false := beq_eq_false_iff_ne.mpr c28
        have c28b1 : (a0_8 != a1_8) = true := bne_iff_ne.mpr c28
        have H' := Aside0.mk H
        clear H
        have hnb36 := NB176_177.out
        have hnc36 := NB177_176.out
        have hcz37_0 : wc.cell? ⟨gb176, 0, none⟩ = some (.int .i64 a0_0) := (blk_cell BK176.out 0).trans rfl
        have hcz37_1 : wc.cell? ⟨gb176, 1, none⟩ = some (.int .i64 a0_1) := (blk_cell BK176.out 1).trans rfl
        have hcz37_2 : wc.cell? ⟨gb176, 2, none⟩ = some (.slice A0_2 l0_2.length c0_2) := (blk_cell BK176.out 2).trans rfl
        have hcz37_3 : wc.cell? ⟨gb176, 3, none⟩ = some (.slice none 0 0) := (blk_cell BK176.out 3).trans rfl
        have hcz37_4 : wc.cell? ⟨gb176, 4, none⟩ = some (.int .i64 a0_4) := (blk_cell BK176.out 4).trans rfl
        have hcz37_5 : wc.cell? ⟨gb176, 5, none⟩ = some (.int .i64 a0_5) := (blk_cell BK176.out 5).trans rfl
        have hcz37_6 : wc.cell? ⟨gb176, 6, none⟩ = some (.bool a0_6) := (blk_cell BK176.out 6).trans rfl
        have hcz37_7 : wc.cell? ⟨gb176, 7, none⟩ = some (.int .i64 a0_7) := (blk_cell BK176.out 7).trans rfl
        have hcz37_8 : wc.cell? ⟨gb176, 8, none⟩ = some (.int .i64 a0_8) := (blk_cell BK176.out 8).trans rfl
        have hcz37_9 : wc.cell? ⟨gb176, 9, none⟩ = some (.int .i64 a0_9) := (blk_cell BK176.out 9).trans rfl
        have hcz37_10 : wc.cell? ⟨gb176, 10, none⟩ = some (.bool a0_10) := (blk_cell BK176.out 10).trans rfl
        have hcz37_11 : wc.cell? ⟨gb176, 11, none⟩ = some (.bool a0_11) := (blk_cell BK176.out 11).trans rfl
        have hcz37_12 : wc.cell? ⟨gb176, 12, none⟩ = some (.bool a0_12) := (blk_cell BK176.out 12).trans rfl
        have hcz37_13 : wc.cell? ⟨gb176, 13, none⟩ = some (.slice A0_13 l0_13.length c0_13) := (blk_cell BK176.out 13).trans rfl
        have hcz37_14 : wc.cell? ⟨gb176, 14, none⟩ = some (.int .i64 a0_14) := (blk_cell BK176.out 14).trans rfl
        have hcz37_15 : wc.cell? ⟨gb176, 15, none⟩ = some (.int .i64 a0_15) := (blk_cell BK176.out 15).trans rfl
        have hcz37_16 : wc.cell? ⟨gb176, 16, none⟩ = some (.int .i64 a0_16) := (blk_cell BK176.out 16).trans rfl
        have hcz37_17 : wc.cell? ⟨gb176, 17, none⟩ = some (.slice A0_17 l0_17.length c0_17) := (blk_cell BK176.out 17).trans rfl
        have hcz37_18 : wc.cell? ⟨gb176, 18, none⟩ = some (.int .i64 a0_18) := (blk_cell BK176.out 18).trans rfl
        have hcz37_19 : wc.cell? ⟨gb176, 19, none⟩ = some (.int .i64 a0_19) := (blk_cell BK176.out 19).trans rfl
        have hfz37_0 := blk_frozen BK176.out 0
        have hfz37_1 := blk_frozen BK176.out 1
        have hfz37_2 := blk_frozen BK176.out 2
        have hfz37_3 := blk_frozen BK176.out 3
        have hfz37_4 := blk_frozen BK176.out 4
        have hfz37_5 := blk_frozen BK176.out 5
        have hfz37_6 := blk_frozen BK176.out 6
        have hfz37_7 := blk_frozen BK176.out 7
        have hfz37_8 := blk_frozen BK176.out 8
        have hfz37_9 := blk_frozen BK176.out 9
        have hfz37_10 := blk_frozen BK176.out 10
        have hfz37_11 := blk_frozen BK176.out 11
        have hfz37_12 := blk_frozen BK176.out 12
        have hfz37_13 := blk_frozen BK176.out 13
        have hfz37_14 := blk_frozen BK176.out 14
        have hfz37_15 := blk_frozen BK176.out 15
        have hfz37_16 := blk_frozen BK176.out 16
        have hfz37_17 := blk_frozen BK176.out 17
        have hfz37_18 := blk_frozen BK176.out 18
        have hfz37_19 := blk_frozen BK176.out 19
        have hcz38_0 : wc.cell? ⟨gb177, 0, none⟩ = some (.int .i64 a1_0) := (blk_cell BK177.out 0).trans rfl
        have hcz38_1 : wc.cell? ⟨gb177, 1, none⟩ = some (.int .i64 a1_1) := (blk_cell BK177.out 1).trans rfl
        have hcz38_2 : wc.cell? ⟨gb177, 2, none⟩ = some (.slice A1_2 l1_2.length c1_2) := (blk_cell BK177.out 2).trans rfl
        have hcz38_3 : wc.cell? ⟨gb177, 3, none⟩ = some (.slice none 0 0) := (blk_cell BK177.out 3).trans rfl
        have hcz38_4 : wc.cell? ⟨gb177, 4, none⟩ = some (.int .i64 a1_4) := (blk_cell BK177.out 4).trans rfl
        have hcz38_5 : wc.cell? ⟨gb177, 5, none⟩ = some (.int .i64 a1_5) := (blk_cell BK177.out 5).trans rfl
        have hcz38_6 : wc.cell? ⟨gb177, 6, none⟩ = some (.bool a1_6) := (blk_cell BK177.out 6).trans rfl
        have hcz38_7 : wc.cell? ⟨gb177, 7, none⟩ = some (.int .i64 a1_7) := (blk_cell BK177.out 7).trans rfl
        have hcz38_8 : wc.cell? ⟨gb177, 8, none⟩ = some (.int .i64 a1_8) := (blk_cell BK177.out 8).trans rfl
        have hcz38_9 : wc.cell? ⟨gb177, 9, none⟩ = some (.int .i64 a1_9) := (blk_cell BK177.out 9).trans rfl
        have hcz38_10 : wc.cell? ⟨gb177, 10, none⟩ = some (.bool a1_10) := (blk_cell BK177.out 10).trans rfl
        have hcz38_11 : wc.cell? ⟨gb177, 11, none⟩ = some (.bool a1_11) := (blk_cell BK177.out 11).trans rfl
        have hcz38_12 : wc.cell? ⟨gb177, 12, none⟩ = some (.bool a1_12) := (blk_cell BK177.out 12).trans rfl
        have hcz38_13 : wc.cell? ⟨gb177, 13, none⟩ = some (.slice A1_13 l1_13.length c1_13) := (blk_cell BK177.out 13).trans rfl
        have hcz38_14 : wc.cell? ⟨gb177, 14, none⟩ = some (.int .i64 a1_14) := (blk_cell BK177.out 14).trans rfl
        have hcz38_15 : wc.cell? ⟨gb177, 15, none⟩ = some (.int .i64 a1_15) := (blk_cell BK177.out 15).trans rfl
        have hcz38_16 : wc.cell? ⟨gb177, 16, none⟩ = some (.int .i64 a1_16) := (blk_cell BK177.out 16).trans rfl
        have hcz38_17 : wc.cell? ⟨gb177, 17, none⟩ = some (.slice A1_17 l1_17.length c1_17) := (blk_cell BK177.out 17).trans rfl
        have hcz38_18 : wc.cell? ⟨gb177, 18, none⟩ = some (.int .i64 a1_18) := (blk_cell BK177.out 18).trans rfl
        have hcz38_19 : wc.cell? ⟨gb177, 19, none⟩ = some (.int .i64 a1_19) := (blk_cell BK177.out 19).trans rfl
        have hfz38_0 := blk_frozen BK177.out 0
        have hfz38_1 := blk_frozen BK177.out 1
        have hfz38_2 := blk_frozen BK177.out 2
        have hfz38_3 := blk_frozen BK177.out 3
        have hfz38_4 := blk_frozen BK177.out 4
        have hfz38_5 := blk_frozen BK177.out 5
        have hfz38_6 := blk_frozen BK177.out 6
        have hfz38_7 := blk_frozen BK177.out 7
        have hfz38_8 := blk_frozen BK177.out 8
        have hfz38_9 := blk_frozen BK177.out 9
        have hfz38_10 := blk_frozen BK177.out 10
        have hfz38_11 := blk_frozen BK177.out 11
        have hfz38_12 := blk_frozen BK177.out 12
        have hfz38_13 := blk_frozen BK177.out 13
        have hfz38_14 := blk_frozen BK177.out 14
        have hfz38_15 := blk_frozen BK177.out 15
        have hfz38_16 := blk_frozen BK177.out 16
        have hfz38_17 := blk_frozen BK177.out 17
        have hfz38_18 := blk_frozen BK177.out 18
        have hfz38_19 := blk_frozen BK177.out 19
        go_wp2
        go_meet
        case rel => exact ⟨_, (false), (by first | rfl | (simp; done) | (simp [*]; done)), H', ⟨by have := HJ2.out; first | omega | exact Nat.le_refl _⟩, ⟨by (with_reducible repeat (first | refine blk_drewN ?_ _ | refine blk_drew ?_ | refine blk_alloc ?_ _)); exact BK176.out⟩, ⟨by (with_reducible repeat (first | refine blk_drewN ?_ _ | refine blk_drew ?_ | refine blk_alloc ?_ _)); exact BK177.out⟩, ⟨by repeat (first | (with_reducible first | exact HB.out | apply below_alloc | apply pw_below_drewN | apply below_drew1 | refine below_set ?_ GE176.out | refine below_set ?_ GE177.out) | exact HB.out)⟩⟩
      ·rw [if_neg c27] at H
       have c27b0 : (a0_7 == a1_7) = false := beq_eq_false_iff_ne.mpr c27
       have c27b1 : (a0_7 != a1_7) = true := bne_iff_ne.mpr c27
       have H' := Aside0.mk H
       clear H
       have hnb39 := NB176_177.out
       have hnc39 := NB177_176.out
       have hcz40_0 : wc.cell? ⟨gb176, 0, none⟩ = some (.int .i64 a0_0) := (blk_cell BK176.out 0).trans rfl
       have hcz40_1 : wc.cell? ⟨gb176, 1, none⟩ = some (.int .i64 a0_1) := (blk_cell BK176.out 1).trans rfl
       have hcz40_2 : wc.cell? ⟨gb176, 2, none⟩ = some (.slice A0_2 l0_2.length c0_2) := (blk_cell BK176.out 2).trans rfl
       have hcz40_3 : wc.cell? ⟨gb176, 3, none⟩ = some (.slice none 0 0) := (blk_cell BK176.out 3).trans rfl
       have hcz40_4 : wc.cell? ⟨gb176, 4, none⟩ = some (.int .i64 a0_4) := (blk_cell BK176.out 4).trans rfl
       have hcz40_5 : wc.cell? ⟨gb176, 5, none⟩ = some (.int .i64 a0_5) := (blk_cell BK176.out 5).trans rfl
       have hcz40_6 : wc.cell? ⟨gb176, 6, none⟩ = some (.bool a0_6) := (blk_cell BK176.out 6).trans rfl
       have hcz40_7 : wc.cell? ⟨gb176, 7, none⟩ = some (.int .i64 a0_7) := (blk_cell BK176.out 7).trans rfl
       have hcz40_8 : wc.cell? ⟨gb176, 8, none⟩ = some (.int .i64 a0_8) := (blk_cell BK176.out 8).trans rfl
       have hcz40_9 : wc.cell? ⟨gb176, 9, none⟩ = some (.int .i64 a0_9) := (blk_cell BK176.out 9).trans rfl
       have hcz40_10 : wc.cell? ⟨gb176, 10, none⟩ = some (.bool a0_10) := (blk_cell BK176.out 10).trans rfl
       have hcz40_11 : wc.cell? ⟨gb176, 11, none⟩ = some (.bool a0_11) := (blk_cell BK176.out 11).trans rfl
       have hcz40_12 : wc.cell? ⟨gb176, 12, none⟩ = some (.bool a0_12) := (blk_cell BK176.out 12).trans rfl
       have hcz40_13 : wc.cell? ⟨gb176, 13, none⟩ = some (.slice A0_13 l0_13.length c0_13) := (blk_cell BK176.out 13).trans rfl
       have hcz40_14 : wc.cell? ⟨gb176, 14, none⟩ = some (.int .i64 a0_14) := (blk_cell BK176.out 14).trans rfl
       have hcz40_15 : wc.cell? ⟨gb176, 15, none⟩ = some (.int .i64 a0_15) := (blk_cell BK176.out 15).trans rfl
       have hcz40_16 : wc.cell? ⟨gb176, 16, none⟩ = some (.int .i64 a0_16) := (blk_cell BK176.out 16).trans rfl
       have hcz40_17 : wc.cell? ⟨gb176, 17, none⟩ = some (.slice A0_17 l0_17.length c0_17) := (blk_cell BK176.out 17).trans rfl
       have hcz40_18 : wc.cell? ⟨gb176, 18, none⟩ = some (.int .i64 a0_18) := (blk_cell BK176.out 18).trans rfl
       have hcz40_19 : wc.cell? ⟨gb176, 19, none⟩ = some (.int .i64 a0_19) := (blk_cell BK176.out 19).trans rfl
       have hfz40_0 := blk_frozen BK176.out 0
       have hfz40_1 := blk_frozen BK176.out 1
       have hfz40_2 := blk_frozen BK176.out 2
       have hfz40_3 := blk_frozen BK176.out 3
       have hfz40_4 := blk_frozen BK176.out 4
       have hfz40_5 := blk_frozen BK176.out 5
       have hfz40_6 := blk_frozen BK176.out 6
       have hfz40_7 := blk_frozen BK176.out 7
       have hfz40_8 := blk_frozen BK176.out 8
       have hfz40_9 := blk_frozen BK176.out 9
       have hfz40_10 := blk_frozen BK176.out 10
       have hfz40_11 := blk_frozen BK176.out 11
       have hfz40_12 := blk_frozen BK176.out 12
       have hfz40_13 := blk_frozen BK176.out 13
       have hfz40_14 := blk_frozen BK176.out 14
       have hfz40_15 := blk_frozen BK176.out 15
       have hfz40_16 := blk_frozen BK176.out 16
       have hfz40_17 := blk_frozen BK176.out 17
       have hfz40_18 := blk_frozen BK176.out 18
       have hfz40_19 := blk_frozen BK176.out 19
       have hcz41_0 : wc.cell? ⟨gb177, 0, none⟩ = some (.int .i64 a1_0) := (blk_cell BK177.out 0).trans rfl
       have hcz41_1 : wc.cell? ⟨gb177, 1, none⟩ = some (.int .i64 a1_1) := (blk_cell BK177.out 1).trans rfl
       have hcz41_2 : wc.cell? ⟨gb177, 2, none⟩ = some (.slice A1_2 l1_2.length c1_2) := (blk_cell BK177.out 2).trans rfl
       have hcz41_3 : wc.cell? ⟨gb177, 3, none⟩ = some (.slice none 0 0) := (blk_cell BK177.out 3).trans rfl
       have hcz41_4 : wc.cell? ⟨gb177, 4, none⟩ = some (.int .i64 a1_4) := (blk_cell BK177.out 4).trans rfl
       have hcz41_5 : wc.cell? ⟨gb177, 5, none⟩ = some (.int .i64 a1_5) := (blk_cell BK177.out 5).trans rfl
       have hcz41_6 : wc.cell? ⟨gb177, 6, none⟩ = some (.bool a1_6) := (blk_cell BK177.out 6).trans rfl
       have hcz41_7 : wc.cell? ⟨gb177, 7, none⟩ = some (.int .i64 a1_7) := (blk_cell BK177.out 7).trans rfl
       have hcz41_8 : wc.cell? ⟨gb177, 8, none⟩ = some (.int .i64 a1_8) := (blk_cell BK177.out 8).trans rfl
       have hcz41_9 : wc.cell? ⟨gb177, 9, none⟩ = some (.int .i64 a1_9) := (blk_cell BK177.out 9).trans rfl
       have hcz41_10 : wc.cell? ⟨gb177, 10, none⟩ = some (.bool a1_10) := (blk_cell BK177.out 10).trans rfl
       have hcz41_11 : wc.cell? ⟨gb177, 11, none⟩ = some (.bool a1_11) := (blk_cell BK177.out 11).trans rfl
       have hcz41_12 : wc.cell? ⟨gb177, 12, none⟩ = some (.bool a1_12) := (blk_cell BK177.out 12).trans rfl
       have hcz41_13 : wc.cell? ⟨gb177, 13, none⟩ = some (.slice A1_13 l1_13.length c1_13) := (blk_cell BK177.out 13).trans rfl
       have hcz41_14 : wc.cell? ⟨gb177, 14, none⟩ = some (.int .i64 a1_14) := (blk_cell BK177.out 14).trans rfl
       have hcz41_15 : wc.cell? ⟨gb177, 15, none⟩ = some (.int .i64 a1_15) := (blk_cell BK177.out 15).trans rfl
       have hcz41_16 : wc.cell? ⟨gb177, 16, none⟩ = some (.int .i64 a1_16) := (blk_cell BK177.out 16).trans rfl
       have hcz41_17 : wc.cell? ⟨gb177, 17, none⟩ = some (.slice A1_17 l1_17.length c1_17) := (blk_cell BK177.out 17).trans rfl
       have hcz41_18 : wc.cell? ⟨gb177, 18, none⟩ = some (.int .i64 a1_18) := (blk_cell BK177.out 18).trans rfl
       have hcz41_19 : wc.cell? ⟨gb177, 19, none⟩ = some (.int .i64 a1_19) := (blk_cell BK177.out 19).trans rfl
       have hfz41_0 := blk_frozen BK177.out 0
       have hfz41_1 := blk_frozen BK177.out 1
       have hfz41_2 := blk_frozen BK177.out 2
       have hfz41_3 := blk_frozen BK177.out 3
       have hfz41_4 := blk_frozen BK177.out 4
       have hfz41_5 := blk_frozen BK177.out 5
       have hfz41_6 := blk_frozen BK177.out 6
       have hfz41_7 := blk_frozen BK177.out 7
       have hfz41_8 := blk_frozen BK177.out 8
       have hfz41_9 := blk_frozen BK177.out 9
       have hfz41_10 := blk_frozen BK177.out 10
       have hfz41_11 := blk_frozen BK177.out 11
       have hfz41_12 := blk_frozen BK177.out 12
       have hfz41_13 := blk_frozen BK177.out 13
       have hfz41_14 := blk_frozen BK177.out 14
       have hfz41_15 := blk_frozen BK177.out 15
       have hfz41_16 := blk_frozen BK177.out 16
       have hfz41_17 := blk_frozen BK177.out 17
       have hfz41_18 := blk_frozen BK177.out 18
       have hfz41_19 := blk_frozen BK177.out 19
       go_wp2
       go_meet
       case rel => exact ⟨_, (false), (by first | rfl | (simp; done) | (simp [*]; done)), H', ⟨by have := HJ2.out; first | omega | exact Nat.le_refl _⟩, ⟨by (with_reducible repeat (first | refine blk_drewN ?_ _ | refine blk_drew ?_ | refine blk_alloc ?_ _)); exact BK176.out⟩, ⟨by (with_reducible repeat (first | refine blk_drewN ?_ _ | refine blk_drew ?_ | refine blk_alloc ?_ _)); exact BK177.out⟩, ⟨by repeat (first | (with_reducible first | exact HB.out | apply below_alloc | apply pw_below_drewN | apply below_drew1 | refine below_set ?_ GE176.out | refine below_set ?_ GE177.out) | exact HB.out)⟩⟩
     ·rw [if_neg c26] at H
      have c26b0 : (a0_5 == a1_5) = false := beq_eq_false_iff_ne.mpr c26
      have c26b1 : (a0_5 != a1_5) = true := bne_iff_ne.mpr c26
      have H' := Aside0.mk H
      clear H
      have hnb42 := NB176_177.out
      have hnc42 := NB177_176.out
      have hcz43_0 : wc.cell? ⟨gb176, 0, none⟩ = some (.int .i64 a0_0) := (blk_cell BK176.out 0).trans rfl
      have hcz43_1 : wc.cell? ⟨gb176, 1, none⟩ = some (.int .i64 a0_1) := (blk_cell BK176.out 1).trans rfl
      have hcz43_2 : wc.cell? ⟨gb176, 2, none⟩ = some (.slice A0_2 l0_2.length c0_2) := (blk_cell BK176.out 2).trans rfl
      have hcz43_3 : wc.cell? ⟨gb176, 3, none⟩ = some (.slice none 0 0) := (blk_cell BK176.out 3).trans rfl
      have hcz43_4 : wc.cell? ⟨gb176, 4, none⟩ = some (.int .i64 a0_4) := (blk_cell BK176.out 4).trans rfl
      have hcz43_5 : wc.cell? ⟨gb176, 5, none⟩ = some (.int .i64 a0_5) := (blk_cell BK176.out 5).trans rfl
      have hcz43_6 : wc.cell? ⟨gb176, 6, none⟩ = some (.bool a0_6) := (blk_cell BK176.out 6).trans rfl
      have hcz43_7 : wc.cell? ⟨gb176, 7, none⟩ = some (.int .i64 a0_7) := (blk_cell BK176.out 7).trans rfl
      have hcz43_8 : wc.cell? ⟨gb176, 8, none⟩ = some (.int .i64 a0_8) := (blk_cell BK176.out 8).trans rfl
      have hcz43_9 : wc.cell? ⟨gb176, 9, none⟩ = some (.int .i64 a0_9) := (blk_cell BK176.out 9).trans rfl
      have hcz43_10 : wc.cell? ⟨gb176, 10, none⟩ = some (.bool a0_10) := (blk_cell BK176.out 10).trans rfl
      have hcz43_11 : wc.cell? ⟨gb176, 11, none⟩ = some (.bool a0_11) := (blk_cell BK176.out 11).trans rfl
      have hcz43_12 : wc.cell? ⟨gb176, 12, none⟩ = some (.bool a0_12) := (blk_cell BK176.out 12).trans rfl
      have hcz43_13 : wc.cell? ⟨gb176, 13, none⟩ = some (.slice A0_13 l0_13.length c0_13) := (blk_cell BK176.out 13).trans rfl
      have hcz43_14 : wc.cell? ⟨gb176, 14, none⟩ = some (.int .i64 a0_14) := (blk_cell BK176.out 14).trans rfl
      have hcz43_15 : wc.cell? ⟨gb176, 15, none⟩ = some (.int .i64 a0_15) := (blk_cell BK176.out 15).trans rfl
      have hcz43_16 : wc.cell? ⟨gb176, 16, none⟩ = some (.int .i64 a0_16) := (blk_cell BK176.out 16).trans rfl
      have hcz43_17 : wc.cell? ⟨gb176, 17, none⟩ = some (.slice A0_17 l0_17.length c0_17) := (blk_cell BK176.out 17).trans rfl
      have hcz43_18 : wc.cell? ⟨gb176, 18, none⟩ = some (.int .i64 a0_18) := (blk_cell BK176.out 18).trans rfl
      have hcz43_19 : wc.cell? ⟨gb176, 19, none⟩ = some (.int .i64 a0_19) := (blk_cell BK176.out 19).trans rfl
      have hfz43_0 := blk_frozen BK176.out 0
      have hfz43_1 := blk_frozen BK176.out 1
      have hfz43_2 := blk_frozen BK176.out 2
      have hfz43_3 := blk_frozen BK176.out 3
      have hfz43_4 := blk_frozen BK176.out 4
      have hfz43_5 := blk_frozen BK176.out 5
      have hfz43_6 := blk_frozen BK176.out 6
      have hfz43_7 := blk_frozen BK176.out 7
      have hfz43_8 := blk_frozen BK176.out 8
      have hfz43_9 := blk_frozen BK176.out 9
      have hfz43_10 := blk_frozen BK176.out 10
      have hfz43_11 := blk_frozen BK176.out 11
      have hfz43_12 := blk_frozen BK176.out 12
      have hfz43_13 := blk_frozen BK176.out 13
      have hfz43_14 := blk_frozen BK176.out 14
      have hfz43_15 := blk_frozen BK176.out 15
      have hfz43_16 := blk_frozen BK176.out 16
      have hfz43_17 := blk_frozen BK176.out 17
      have hfz43_18 := blk_frozen BK176.out 18
      have hfz43_19 := blk_frozen BK176.out 19
      have hcz44_0 : wc.cell? ⟨gb177, 0, none⟩ = some (.int .i64 a1_0) := (blk_cell BK177.out 0).trans rfl
      have hcz44_1 : wc.cell? ⟨gb177, 1, none⟩ = some (.int .i64 a1_1) := (blk_cell BK177.out 1).trans rfl
      have hcz44_2 : wc.cell? ⟨gb177, 2, none⟩ = some (.slice A1_2 l1_2.length c1_2) := (blk_cell BK177.out 2).trans rfl
      have hcz44_3 : wc.cell? ⟨gb177, 3, none⟩ = some (.slice none 0 0) := (blk_cell BK177.out 3).trans rfl
      have hcz44_4 : wc.cell? ⟨gb177, 4, none⟩ = some (.int .i64 a1_4) := (blk_cell BK177.out 4).trans rfl
      have hcz44_5 : wc.cell? ⟨gb177, 5, none⟩ = some (.int .i64 a1_5) := (blk_cell BK177.out 5).trans rfl
      have hcz44_6 : wc.cell? ⟨gb177, 6, none⟩ = some (.bool a1_6) := (blk_cell BK177.out 6).trans rfl
      have hcz44_7 : wc.cell? ⟨gb177, 7, none⟩ = some (.int .i64 a1_7) := (blk_cell BK177.out 7).trans rfl
      have hcz44_8 : wc.cell? ⟨gb177, 8, none⟩ = some (.int .i64 a1_8) := (blk_cell BK177.out 8).trans rfl
      have hcz44_9 : wc.cell? ⟨gb177, 9, none⟩ = some (.int .i64 a1_9) := (blk_cell BK177.out 9).trans rfl
      have hcz44_10 : wc.cell? ⟨gb177, 10, none⟩ = some (.bool a1_10) := (blk_cell BK177.out 10).trans rfl
      have hcz44_11 : wc.cell? ⟨gb177, 11, none⟩ = some (.bool a1_11) := (blk_cell BK177.out 11).trans rfl
      have hcz44_12 : wc.cell? ⟨gb177, 12, none⟩ = some (.bool a1_12) := (blk_cell BK177.out 12).trans rfl
      have hcz44_13 : wc.cell? ⟨gb177, 13, none⟩ = some (.slice A1_13 l1_13.length c1_13) := (blk_cell BK177.out 13).trans rfl
      have hcz44_14 : wc.cell? ⟨gb177, 14, none⟩ = some (.int .i64 a1_14) := (blk_cell BK177.out 14).trans rfl
      have hcz44_15 : wc.cell? ⟨gb177, 15, none⟩ = some (.int .i64 a1_15) := (blk_cell BK177.out 15).trans rfl
      have hcz44_16 : wc.cell? ⟨gb177, 16, none⟩ = some (.int .i64 a1_16) := (blk_cell BK177.out 16).trans rfl
      have hcz44_17 : wc.cell? ⟨gb177, 17, none⟩ = some (.slice A1_17 l1_17.length c1_17) := (blk_cell BK177.out 17).trans rfl
      have hcz44_18 : wc.cell? ⟨gb177, 18, none⟩ = some (.int .i64 a1_18) := (blk_cell BK177.out 18).trans rfl
      have hcz44_19 : wc.cell? ⟨gb177, 19, none⟩ = some (.int .i64 a1_19) := (blk_cell BK177.out 19).trans rfl
      have hfz44_0 := blk_frozen BK177.out 0
      have hfz44_1 := blk_frozen BK177.out 1
      have hfz44_2 := blk_frozen BK177.out 2
      have hfz44_3 := blk_frozen BK177.out 3
      have hfz44_4 := blk_frozen BK177.out 4
      have hfz44_5 := blk_frozen BK177.out 5
      have hfz44_6 := blk_frozen BK177.out 6
      have hfz44_7 := blk_frozen BK177.out 7
      have hfz44_8 := blk_frozen BK177.out 8
      have hfz44_9 := blk_frozen BK177.out 9
      have hfz44_10 := blk_frozen BK177.out 10
      have hfz44_11 := blk_frozen BK177.out 11
      have hfz44_12 := blk_frozen BK177.out 12
      have hfz44_13 := blk_frozen BK177.out 13
      have hfz44_14 := blk_frozen BK177.out 14
      have hfz44_15 := blk_frozen BK177.out 15
      have hfz44_16 := blk_frozen BK177.out 16
      have hfz44_17 := blk_frozen BK177.out 17
      have hfz44_18 := blk_frozen BK177.out 18
      have hfz44_19 := blk_frozen BK177.out 19
      go_wp2
      go_meet
      case rel => exact ⟨_, (false), (by first | rfl | (simp; done) | (simp [*]; done)), H', ⟨by have := HJ2.out; first | omega | exact Nat.le_refl _⟩, ⟨by (with_reducible repeat (first | refine blk_drewN ?_ _ | refine blk_drew ?_ | refine blk_alloc ?_ _)); exact BK176.out⟩, ⟨by (with_reducible repeat (first | refine blk_drewN ?_ _ | refine blk_drew ?_ | refine blk_alloc ?_ _)); exact BK177.out⟩, ⟨by repeat (first | (with_reducible first | exact HB.out | apply below_alloc | apply pw_below_drewN | apply below_drew1 | refine below_set ?_ GE176.out | refine below_set ?_ GE177.out) | exact HB.out)⟩⟩
    ·rw [if_neg c25] at H
     have c25b0 : (a0_4 == a1_4) = false := beq_eq_false_iff_ne.mpr c25
     have c25b1 : (a0_4 != a1_4) = true := bne_iff_ne.mpr c25
     (first | rw [c25b0] | (simp only [i64_w, i32_w]; rw [c25b0]) | skip)
     have H' := Aside0.mk H
     clear H
     have hnb45 := NB176_177.out
     have hnc45 := NB177_176.out
     have hcz46_0 : wc.cell? ⟨gb176, 0, none⟩ = some (.int .i64 a0_0) := (blk_cell BK176.out 0).trans rfl
     have hcz46_1 : wc.cell? ⟨gb176, 1, none⟩ = some (.int .i64 a0_1) := (blk_cell BK176.out 1).trans rfl
     have hcz46_2 : wc.cell? ⟨gb176, 2, none⟩ = some (.slice A0_2 l0_2.length c0_2) := (blk_cell BK176.out 2).trans rfl
     have hcz46_3 : wc.cell? ⟨gb176, 3, none⟩ = some (.slice none 0 0) := (blk_cell BK176.out 3).trans rfl
     have hcz46_4 : wc.cell? ⟨gb176, 4, none⟩ = some (.int .i64 a0_4) := (blk_cell BK176.out 4).trans rfl
     have hcz46_5 : wc.cell? ⟨gb176, 5, none⟩ = some (.int .i64 a0_5) := (blk_cell BK176.out 5).trans rfl
     have hcz46_6 : wc.cell? ⟨gb176, 6, none⟩ = some (.bool a0_6) := (blk_cell BK176.out 6).trans rfl
     have hcz46_7 : wc.cell? ⟨gb176, 7, none⟩ = some (.int .i64 a0_7) := (blk_cell BK176.out 7).trans rfl
     have hcz46_8 : wc.cell? ⟨gb176, 8, none⟩ = some (.int .i64 a0_8) := (blk_cell BK176.out 8).trans rfl
     have hcz46_9 : wc.cell? ⟨gb176, 9, none⟩ = some (.int .i64 a0_9) := (blk_cell BK176.out 9).trans rfl
     have hcz46_10 : wc.cell? ⟨gb176, 10, none⟩ = some (.bool a0_10) := (blk_cell BK176.out 10).trans rfl
     have hcz46_11 : wc.cell? ⟨gb176, 11, none⟩ = some (.bool a0_11) := (blk_cell BK176.out 11).trans rfl
     have hcz46_12 : wc.cell? ⟨gb176, 12, none⟩ = some (.bool a0_12) := (blk_cell BK176.out 12).trans rfl
     have hcz46_13 : wc.cell? ⟨gb176, 13, none⟩ = some (.slice A0_13 l0_13.length c0_13) := (blk_cell BK176.out 13).trans rfl
     have hcz46_14 : wc.cell? ⟨gb176, 14, none⟩ = some (.int .i64 a0_14) := (blk_cell BK176.out 14).trans rfl
     have hcz46_15 : wc.cell? ⟨gb176, 15, none⟩ = some (.int .i64 a0_15) := (blk_cell BK176.out 15).trans rfl
     have hcz46_16 : wc.cell? ⟨gb176, 16, none⟩ = some (.int .i64 a0_16) := (blk_cell BK176.out 16).trans rfl
     have hcz46_17 : wc.cell? ⟨gb176, 17, none⟩ = some (.slice A0_17 l0_17.length c0_17) := (blk_cell BK176.out 17).trans rfl
     have hcz46_18 : wc.cell? ⟨gb176, 18, none⟩ = some (.int .i64 a0_18) := (blk_cell BK176.out 18).trans rfl
     have hcz46_19 : wc.cell? ⟨gb176, 19, none⟩ = some (.int .i64 a0_19) := (blk_cell BK176.out 19).trans rfl
     have hfz46_0 := blk_frozen BK176.out 0
     have hfz46_1 := blk_frozen BK176.out 1
     have hfz46_2 := blk_frozen BK176.out 2
     have hfz46_3 := blk_frozen BK176.out 3
     have hfz46_4 := blk_frozen BK176.out 4
     have hfz46_5 := blk_frozen BK176.out 5
     have hfz46_6 := blk_frozen BK176.out 6
     have hfz46_7 := blk_frozen BK176.out 7
     have hfz46_8 := blk_frozen BK176.out 8
     have hfz46_9 := blk_frozen BK176.out 9
     have hfz46_10 := blk_frozen BK176.out 10
     have hfz46_11 := blk_frozen BK176.out 11
     have hfz46_12 := blk_frozen BK176.out 12
     have hfz46_13 := blk_frozen BK176.out 13
     have hfz46_14 := blk_frozen BK176.out 14
     have hfz46_15 := blk_frozen BK176.out 15
     have hfz46_16 := blk_frozen BK176.out 16
     have hfz46_17 := blk_frozen BK176.out 17
     have hfz46_18 := blk_frozen BK176.out 18
     have hfz46_19 := blk_frozen BK176.out 19
     have hcz47_0 : wc.cell? ⟨gb177, 0, none⟩ = some (.int .i64 a1_0) := (blk_cell BK177.out 0).trans rfl
     have hcz47_1 : wc.cell? ⟨gb177, 1, none⟩ = some (.int .i64 a1_1) := (blk_cell BK177.out 1).trans rfl
     have hcz47_2 : wc.cell? ⟨gb177, 2, none⟩ = some (.slice A1_2 l1_2.length c1_2) := (blk_cell BK177.out 2).trans rfl
     have hcz47_3 : wc.cell? ⟨gb177, 3, none⟩ = some (.slice none 0 0) := (blk_cell BK177.out 3).trans rfl
     have hcz47_4 : wc.cell? ⟨gb177, 4, none⟩ = some (.int .i64 a1_4) := (blk_cell BK177.out 4).trans rfl
     have hcz47_5 : wc.cell? ⟨gb177, 5, none⟩ = some (.int .i64 a1_5) := (blk_cell BK177.out 5).trans rfl
     have hcz47_6 : wc.cell? ⟨gb177, 6, none⟩ = some (.bool a1_6) := (blk_cell BK177.out 6).trans rfl
     have hcz47_7 : wc.cell? ⟨gb177, 7, none⟩ = some (.int .i64 a1_7) := (blk_cell BK177.out 7).trans rfl
     have hcz47_8 : wc.cell? ⟨gb177, 8, none⟩ = some (.int .i64 a1_8) := (blk_cell BK177.out 8).trans rfl
     have hcz47_9 : wc.cell? ⟨gb177, 9, none⟩ = some (.int .i64 a1_9) := (blk_cell BK177.out 9).trans rfl
     have hcz47_10 : wc.cell? ⟨gb177, 10, none⟩ = some (.bool a1_10) := (blk_cell BK177.out 10).trans rfl
     have hcz47_11 : wc.cell? ⟨gb177, 11, none⟩ = some (.bool a1_11) := (blk_cell BK177.out 11).trans rfl
     have hcz47_12 : wc.cell? ⟨gb177, 12, none⟩ = some (.bool a1_12) := (blk_cell BK177.out 12).trans rfl
     have hcz47_13 : wc.cell? ⟨gb177, 13, none⟩ = some (.slice A1_13 l1_13.length c1_13) := (blk_cell BK177.out 13).trans rfl
     have hcz47_14 : wc.cell? ⟨gb177, 14, none⟩ = some (.int .i64 a1_14) := (blk_cell BK177.out 14).trans rfl
     have hcz47_15 : wc.cell? ⟨gb177, 15, none⟩ = some (.int .i64 a1_15) := (blk_cell BK177.out 15).trans rfl
     have hcz47_16 : wc.cell? ⟨gb177, 16, none⟩ = some (.int .i64 a1_16) := (blk_cell BK177.out 16).trans rfl
     have hcz47_17 : wc.cell? ⟨gb177, 17, none⟩ = some (.slice A1_17 l1_17.length c1_17) := (blk_cell BK177.out 17).trans rfl
     have hcz47_18 : wc.cell? ⟨gb177, 18, none⟩ = some (.int .i64 a1_18) := (blk_cell BK177.out 18).trans rfl
     have hcz47_19 : wc.cell? ⟨gb177, 19, none⟩ = some (.int .i64 a1_19) := (blk_cell BK177.out 19).trans rfl
     have hfz47_0 := blk_frozen BK177.out 0
     have hfz47_1 := blk_frozen BK177.out 1
     have hfz47_2 := blk_frozen BK177.out 2
     have hfz47_3 := blk_frozen BK177.out 3
     have hfz47_4 := blk_frozen BK177.out 4
     have hfz47_5 := blk_frozen BK177.out 5
     have hfz47_6 := blk_frozen BK177.out 6
     have hfz47_7 := blk_frozen BK177.out 7
     have hfz47_8 := blk_frozen BK177.out 8
     have hfz47_9 := blk_frozen BK177.out 9
     have hfz47_10 := blk_frozen BK177.out 10
     have hfz47_11 := blk_frozen BK177.out 11
     have hfz47_12 := blk_frozen BK177.out 12
     have hfz47_13 := blk_frozen BK177.out 13
     have hfz47_14 := blk_frozen BK177.out 14
     have hfz47_15 := blk_frozen BK177.out 15
     have hfz47_16 := blk_frozen BK177.out 16
     have hfz47_17 := blk_frozen BK177.out 17
     have hfz47_18 := blk_frozen BK177.out 18
     have hfz47_19 := blk_frozen BK177.out 19
     go_wp2
     go_meet
     case rel => exact ⟨_, (false), (by first | rfl | (simp; done) | (simp [*]; done)), H', ⟨by have := HJ2.out; first | omega | exact Nat.le_refl _⟩, ⟨by (with_reducible repeat (first | refine blk_drewN ?_ _ | refine blk_drew ?_ | refine blk_alloc ?_ _)); exact BK176.out⟩, ⟨by (with_reducible repeat (first | refine blk_drewN ?_ _ | refine blk_drew ?_ | refine blk_alloc ?_ _)); exact BK177.out⟩, ⟨by repeat (first | (with_reducible first | exact HB.out | apply below_alloc | apply pw_below_drewN | apply below_drew1 | refine below_set ?_ GE176.out | refine below_set ?_ GE177.out) | exact HB.out)⟩⟩
   case rest =>
    clear HC24
    try clear c1
    try clear c2
    try clear p2
    try clear c3
    try clear c4
    try clear c25
    try clear c25b0
    try clear c25b1
    try clear c26
    try clear c26b0
    try clear c26b1
    try clear c27
    try clear c27b0
    try clear c27b1
    try clear c28
    try clear c28b0
    try clear c28b1
    try clear c29
    try clear c29b0
    try clear c29b1
    try clear c30
    try clear c33
    try clear c36
    try clear c39
    try clear c42
    try clear c45
    try clear hcz31_0
    try clear hcz31_1
    try clear hcz31_10
    try clear hcz31_11
    try clear hcz31_12
    try clear hcz31_13
    try clear hcz31_14
    try clear hcz31_15
    try clear hcz31_16
    try clear hcz31_17
    try clear hcz31_18
    try clear hcz31_19
    try clear hcz31_2
    try clear hcz31_3
    try clear hcz31_4
    try clear hcz31_5
    try clear hcz31_6
    try clear hcz31_7
    try clear hcz31_8
    try clear hcz31_9
    try clear hcz32_0
    try clear hcz32_1
    try clear hcz32_10
    try clear hcz32_11
    try clear hcz32_12
    try clear hcz32_13
    try clear hcz32_14
    try clear hcz32_15
    try clear hcz32_16
    try clear hcz32_17
    try clear hcz32_18
    try clear hcz32_19
    try clear hcz32_2
    try clear hcz32_3
    try clear hcz32_4
    try clear hcz32_5
    try clear hcz32_6
    try clear hcz32_7
    try clear hcz32_8
    try clear hcz32_9
    try clear hcz34_0
    try clear hcz34_1
    try clear hcz34_10
    try clear hcz34_11
    try clear hcz34_12
    try clear hcz34_13
    try clear hcz34_14
    try clear hcz34_15
    try clear hcz34_16
    try clear hcz34_17
    try clear hcz34_18
    try clear hcz34_19
    try clear hcz34_2
    try clear hcz34_3
    try clear hcz34_4
    try clear hcz34_5
    try clear hcz34_6
    try clear hcz34_7
    try clear hcz34_8
    try clear hcz34_9
    try clear hcz35_0
    try clear hcz35_1
    try clear hcz35_10
    try clear hcz35_11
    try clear hcz35_12
    try clear hcz35_13
    try clear hcz35_14
    try clear hcz35_15
    try clear hcz35_16
    try clear hcz35_17
    try clear hcz35_18
    try clear hcz35_19
    try clear hcz35_2
    try clear hcz35_3
    try clear hcz35_4
    try clear hcz35_5
    try clear hcz35_6
    try clear hcz35_7
    try clear hcz35_8
    try clear hcz35_9
    try clear hcz37_0
    try clear hcz37_1
    try clear hcz37_10
    try clear hcz37_11
    try clear hcz37_12
    try clear hcz37_13
    try clear hcz37_14
    try clear hcz37_15
    try clear hcz37_16
    try clear hcz37_17
    try clear hcz37_18
    try clear hcz37_19
    try clear hcz37_2
    try clear hcz37_3
    try clear hcz37_4
    try clear hcz37_5
    try clear hcz37_6
    try clear hcz37_7
    try clear hcz37_8
    try clear hcz37_9
    try clear hcz38_0
    try clear hcz38_1
    try clear hcz38_10
    try clear hcz38_11
    try clear hcz38_12
    try clear hcz38_13
    try clear hcz38_14
    try clear hcz38_15
    try clear hcz38_16
    try clear hcz38_17
    try clear hcz38_18
    try clear hcz38_19
    try clear hcz38_2
    try clear hcz38_3
    try clear hcz38_4
    try clear hcz38_5
    try clear hcz38_6
    try clear hcz38_7
    try clear hcz38_8
    try clear hcz38_9
    try clear hcz40_0
    try clear hcz40_1
    try clear hcz40_10
    try clear hcz40_11
    try clear hcz40_12
    try clear hcz40_13
    try clear hcz40_14
    try clear hcz40_15
    try clear hcz40_16
    try clear hcz40_17
    try clear hcz40_18
    try clear hcz40_19
    try clear hcz40_2
    try clear hcz40_3
    try clear hcz40_4
    try clear hcz40_5
    try clear hcz40_6
    try clear hcz40_7
    try clear hcz40_8
    try clear hcz40_9
    try clear hcz41_0
    try clear hcz41_1
    try clear hcz41_10
    try clear hcz41_11
    try clear hcz41_12
    try clear hcz41_13
    try clear hcz41_14
    try clear hcz41_15
    try clear hcz41_16
    try clear hcz41_17
    try clear hcz41_18
    try clear hcz41_19
    try clear hcz41_2
    try clear hcz41_3
    try clear hcz41_4
    try clear hcz41_5
    try clear hcz41_6
    try clear hcz41_7
    try clear hcz41_8
    try clear hcz41_9
    try clear hcz43_0
    try clear hcz43_1
    try clear hcz43_10
    try clear hcz43_11
    try clear hcz43_12
    try clear hcz43_13
    try clear hcz43_14
    try clear hcz43_15
    try clear hcz43_16
    try clear hcz43_17
    try clear hcz43_18
    try clear hcz43_19
    try clear hcz43_2
    try clear hcz43_3
    try clear hcz43_4
    try clear hcz43_5
    try clear hcz43_6
    try clear hcz43_7
    try clear hcz43_8
    try clear hcz43_9
    try clear hcz44_0
    try clear hcz44_1
    try clear hcz44_10
    try clear hcz44_11
    try clear hcz44_12
    try clear hcz44_13
    try clear hcz44_14
    try clear hcz44_15
    try clear hcz44_16
    try clear hcz44_17
    try clear hcz44_18
    try clear hcz44_19
    try clear hcz44_2
    try clear hcz44_3
    try clear hcz44_4
    try clear hcz44_5
    try clear hcz44_6
    try clear hcz44_7
    try clear hcz44_8
    try clear hcz44_9
    try clear hcz46_0
    try clear hcz46_1
    try clear hcz46_10
    try clear hcz46_11
    try clear hcz46_12
    try clear hcz46_13
    try clear hcz46_14
    try clear hcz46_15
    try clear hcz46_16
    try clear hcz46_17
    try clear hcz46_18
    try clear hcz46_19
    try clear hcz46_2
    try clear hcz46_3
    try clear hcz46_4
    try clear hcz46_5
    try clear hcz46_6
    try clear hcz46_7
    try clear hcz46_8
    try clear hcz46_9
    try clear hcz47_0
    try clear hcz47_1
    try clear hcz47_10
    try clear hcz47_11
    try clear hcz47_12
    try clear hcz47_13
    try clear hcz47_14
    try clear hcz47_15
    try clear hcz47_16
    try clear hcz47_17
    try clear hcz47_18
    try clear hcz47_19
    try clear hcz47_2
    try clear hcz47_3
    try clear hcz47_4
    try clear hcz47_5
    try clear hcz47_6
    try clear hcz47_7
    try clear hcz47_8
    try clear hcz47_9
    try clear hfz31_0
    try clear hfz31_1
    try clear hfz31_10
    try clear hfz31_11
    try clear hfz31_12
    try clear hfz31_13
    try clear hfz31_14
    try clear hfz31_15
    try clear hfz31_16
    try clear hfz31_17
    try clear hfz31_18
    try clear hfz31_19
    try clear hfz31_2
    try clear hfz31_3
    try clear hfz31_4
    try clear hfz31_5
    try clear hfz31_6
    try clear hfz31_7
    try clear hfz31_8
    try clear hfz31_9
    try clear hfz32_0
    try clear hfz32_1
    try clear hfz32_10
    try clear hfz32_11
    try clear hfz32_12
    try clear hfz32_13
    try clear hfz32_14
    try clear hfz32_15
    try clear hfz32_16
    try clear hfz32_17
    try clear hfz32_18
    try clear hfz32_19
    try clear hfz32_2
    try clear hfz32_3
    try clear hfz32_4
    try clear hfz32_5
    try clear hfz32_6
    try clear hfz32_7
    try clear hfz32_8
    try clear hfz32_9
    try clear hfz34_0
    try clear hfz34_1
    try clear hfz34_10
    try clear hfz34_11
    try clear hfz34_12
    try clear hfz34_13
    try clear hfz34_14
    try clear hfz34_15
    try clear hfz34_16
    try clear hfz34_17
    try clear hfz34_18
    try clear hfz34_19
    try clear hfz34_2
    try clear hfz34_3
    try clear hfz34_4
    try clear hfz34_5
    try clear hfz34_6
    try clear hfz34_7
    try clear hfz34_8
    try clear hfz34_9
    try clear hfz35_0
    try clear hfz35_1
    try clear hfz35_10
    try clear hfz35_11
    try clear hfz35_12
    try clear hfz35_13
    try clear hfz35_14
    try clear hfz35_15
    try clear hfz35_16
    try clear hfz35_17
    try clear hfz35_18
    try clear hfz35_19
    try clear hfz35_2
    try clear hfz35_3
    try clear hfz35_4
    try clear hfz35_5
    try clear hfz35_6
    try clear hfz35_7
    try clear hfz35_8
    try clear hfz35_9
    try clear hfz37_0
    try clear hfz37_1
    try clear hfz37_10
    try clear hfz37_11
    try clear hfz37_12
    try clear hfz37_13
    try clear hfz37_14
    try clear hfz37_15
    try clear hfz37_16
    try clear hfz37_17
    try clear hfz37_18
    try clear hfz37_19
    try clear hfz37_2
    try clear hfz37_3
    try clear hfz37_4
    try clear hfz37_5
    try clear hfz37_6
    try clear hfz37_7
    try clear hfz37_8
    try clear hfz37_9
    try clear hfz38_0
    try clear hfz38_1
    try clear hfz38_10
    try clear hfz38_11
    try clear hfz38_12
    try clear hfz38_13
    try clear hfz38_14
    try clear hfz38_15
    try clear hfz38_16
    try clear hfz38_17
    try clear hfz38_18
    try clear hfz38_19
    try clear hfz38_2
    try clear hfz38_3
    try clear hfz38_4
    try clear hfz38_5
    try clear hfz38_6
    try clear hfz38_7
    try clear hfz38_8
    try clear hfz38_9
    try clear hfz40_0
    try clear hfz40_1
    try clear hfz40_10
    try clear hfz40_11
    try clear hfz40_12
    try clear hfz40_13
    try clear hfz40_14
    try clear hfz40_15
    try clear hfz40_16
    try clear hfz40_17
    try clear hfz40_18
    try clear hfz40_19
    try clear hfz40_2
    try clear hfz40_3
    try clear hfz40_4
    try clear hfz40_5
    try clear hfz40_6
    try clear hfz40_7
    try clear hfz40_8
    try clear hfz40_9
    try clear hfz41_0
    try clear hfz41_1
    try clear hfz41_10
    try clear hfz41_11
    try clear hfz41_12
    try clear hfz41_13
    try clear hfz41_14
    try clear hfz41_15
    try clear hfz41_16
    try clear hfz41_17
    try clear hfz41_18
    try clear hfz41_19
    try clear hfz41_2
    try clear hfz41_3
    try clear hfz41_4
    try clear hfz41_5
    try clear hfz41_6
    try clear hfz41_7
    try clear hfz41_8
    try clear hfz41_9
    try clear hfz43_0
    try clear hfz43_1
    try clear hfz43_10
    try clear hfz43_11
    try clear hfz43_12
    try clear hfz43_13
    try clear hfz43_14
    try clear hfz43_15
    try clear hfz43_16
    try clear hfz43_17
    try clear hfz43_18
    try clear hfz43_19
    try clear hfz43_2
    try clear hfz43_3
    try clear hfz43_4
    try clear hfz43_5
    try clear hfz43_6
    try clear hfz43_7
    try clear hfz43_8
    try clear hfz43_9
    try clear hfz44_0
    try clear hfz44_1
    try clear hfz44_10
    try clear hfz44_11
    try clear hfz44_12
    try clear hfz44_13
    try clear hfz44_14
    try clear hfz44_15
    try clear hfz44_16
    try clear hfz44_17
    try clear hfz44_18
    try clear hfz44_19
    try clear hfz44_2
    try clear hfz44_3
    try clear hfz44_4
    try clear hfz44_5
    try clear hfz44_6
    try clear hfz44_7
    try clear hfz44_8
    try clear hfz44_9
    try clear hfz46_0
    try clear hfz46_1
    try clear hfz46_10
    try clear hfz46_11
    try clear hfz46_12
    try clear hfz46_13
    try clear hfz46_14
    try clear hfz46_15
    try clear hfz46_16
    try clear hfz46_17
    try clear hfz46_18
    try clear hfz46_19
    try clear hfz46_2
    try clear hfz46_3
    try clear hfz46_4
    try clear hfz46_5
    try clear hfz46_6
    try clear hfz46_7
    try clear hfz46_8
    try clear hfz46_9
    try clear hfz47_0
    try clear hfz47_1
    try clear hfz47_10
    try clear hfz47_11
    try clear hfz47_12
    try clear hfz47_13
    try clear hfz47_14
    try clear hfz47_15
    try clear hfz47_16
    try clear hfz47_17
    try clear hfz47_18
    try clear hfz47_19
    try clear hfz47_2
    try clear hfz47_3
    try clear hfz47_4
    try clear hfz47_5
    try clear hfz47_6
    try clear hfz47_7
    try clear hfz47_8
    try clear hfz47_9
    try clear hfz8_0
    try clear hfz8_1
    try clear hfz8_10
    try clear hfz8_11
    try clear hfz8_12
    try clear hfz8_13
    try clear hfz8_14
    try clear hfz8_15
    try clear hfz8_16
    try clear hfz8_17
    try clear hfz8_18
    try clear hfz8_19
    try clear hfz8_2
    try clear hfz8_3
    try clear hfz8_4
    try clear hfz8_5
    try clear hfz8_6
    try clear hfz8_7
    try clear hfz8_8
    try clear hfz8_9
    obtain ⟨kq, x6_23, rfl, HA, HJ23, BK176, BK177, HB⟩ := hcut
    cases kq with
    | zero => exact absurd HA.out (by simp [impl_SameShown.j1])
    | succ kj23 =>
     have H := HA.out
     clear HA
     simp only [impl_SameShown.j1] at H
     by_cases c48 : x5_2 = true
     ·subst c48
      have H1 : (if x6_23 = true then ((impl_SameGrids.f kj23 a0_0 a0_1 l0_2 ([] : List (S107)) a1_0 a1_1 l1_2 ([] : List (S107))).bind fun t178 => (if t178 = true then ((slices_Equal_bool_bool.f kj23 l0_13 l1_13).bind fun t179 => (if t179 = true then ((slices_Equal_int64_int64.f kj23 l0_17 l1_17).bind fun t180 => (some t180)) else (some false))) else (some false))) else (some false)) = some r := by rw [if_pos rfl] at H; exact H
      clear H
      have H := H1
      clear H1
      by_cases c49 : x6_23 = true
      ·subst c49
       have H1 : ((impl_SameGrids.f kj23 a0_0 a0_1 l0_2 ([] : List (S107)) a1_0 a1_1 l1_2 ([] : List (S107))).bind fun t178 => (if t178 = true then ((slices_Equal_bool_bool.f kj23 l0_13 l1_13).bind fun t179 => (if t179 = true then ((slices_Equal_int64_int64.f kj23 l0_17 l1_17).bind fun t180 => (some t180)) else (some false))) else (some false))) = some r := by rw [if_pos rfl] at H; exact H
       clear H
       have H := H1
       clear H1
       replace H := Option.bind_eq_some_iff.mp H
       obtain ⟨t178, A500, H⟩ := H
       replace H : (if t178 = true then ((slices_Equal_bool_bool.f kj23 l0_13 l1_13).bind fun t179 => (if t179 = true then ((slices_Equal_int64_int64.f kj23 l0_17 l1_17).bind fun t180 => (some t180)) else (some false))) else (some false)) = some r := H
       have A50 := Aside0.mk A500
       clear A500
       by_cases c51 : t178 = true
       ·subst c51
        have H1 : ((slices_Equal_bool_bool.f kj23 l0_13 l1_13).bind fun t179 => (if t179 = true then ((slices_Equal_int64_int64.f kj23 l0_17 l1_17).bind fun t180 => (some t180)) else (some false))) = some r := by rw [if_pos rfl] at H; exact H
        clear H
        have H := H1
        clear H1
        replace H := Option.bind_eq_some_iff.mp H
        obtain ⟨t179, A520, H⟩ := H
        replace H : (if t179 = true then ((slices_Equal_int64_int64.f kj23 l0_17 l1_17).bind fun t180 => (some t180)) else (some false)) = some r := H
        have A52 := Aside0.mk A520
        clear A520
        by_cases c53 : t179 = true
        ·subst c53
         have H1 : ((slices_Equal_int64_int64.f kj23 l0_17 l1_17).bind fun t180 => (some t180)) = some r := by rw [if_pos rfl] at H; exact H
         clear H
         have H := H1
         clear H1
         replace H := Option.bind_eq_some_iff.mp H
         obtain ⟨t180, A540, H⟩ := H
         replace H : (some t180) = some r := H
         have A54 := Aside0.mk A540
         clear A540
         obtain rfl := Option.some.inj H
         have hnb55 := NB176_177.out
         have hnc55 := NB177_176.out
         have hcz56_0 : wc.cell? ⟨gb176, 0, none⟩ = some (.int .i64 a0_0) := (blk_cell BK176.out 0).trans rfl
         have hcz56_1 : wc.cell? ⟨gb176, 1, none⟩ = some (.int .i64 a0_1) := (blk_cell BK176.out 1).trans rfl
         have hcz56_2 : wc.cell? ⟨gb176, 2, none⟩ = some (.slice A0_2 l0_2.length c0_2) := (blk_cell BK176.out 2).trans rfl
         have hcz56_3 : wc.cell? ⟨gb176, 3, none⟩ = some (.slice none 0 0) := (blk_cell BK176.out 3).trans rfl
         have hcz56_4 : wc.cell? ⟨gb176, 4, none⟩ = some (.int .i64 a0_4) := (blk_cell BK176.out 4).trans rfl
         have hcz56_5 : wc.cell? ⟨gb176, 5, none⟩ = some (.int .i64 a0_5) := (blk_cell BK176.out 5).trans rfl
         have hcz56_6 : wc.cell? ⟨gb176, 6, none⟩ = some (.bool a0_6) := (blk_cell BK176.out 6).trans rfl
         have hcz56_7 : wc.cell? ⟨gb176, 7, none⟩ = some (.int .i64 a0_7) := (blk_cell BK176.out 7).trans rfl
         have hcz56_8 : wc.cell? ⟨gb176, 8, none⟩ = some (.int .i64 a0_8) := (blk_cell BK176.out 8).trans rfl
         have hcz56_9 : wc.cell? ⟨gb176, 9, none⟩ = some (.int .i64 a0_9) := (blk_cell BK176.out 9).trans rfl
         have hcz56_10 : wc.cell? ⟨gb176, 10, none⟩ = some (.bool a0_10) := (blk_cell BK176.out 10).trans rfl
         have hcz56_11 : wc.cell? ⟨gb176, 11, none⟩ = some (.bool a0_11) := (blk_cell BK176.out 11).trans rfl
         have hcz56_12 : wc.cell? ⟨gb176, 12, none⟩ = some (.bool a0_12) := (blk_cell BK176.out 12).trans rfl
         have hcz56_13 : wc.cell? ⟨gb176, 13, none⟩ = some (.slice A0_13 l0_13.length c0_13) := (blk_cell BK176.out 13).trans rfl
         have hcz56_14 : wc.cell? ⟨gb176, 14, none⟩ = some (.int .i64 a0_14) := (blk_cell BK176.out 14).trans rfl
         have hcz56_15 : wc.cell? ⟨gb176, 15, none⟩ = some (.int .i64 a0_15) := (blk_cell BK176.out 15).trans rfl
         have hcz56_16 : wc.cell? ⟨gb176, 16, none⟩ = some (.int .i64 a0_16) := (blk_cell BK176.out 16).trans rfl
         have hcz56_17 : wc.cell? ⟨gb176, 17, none⟩ = some (.slice A0_17 l0_17.length c0_17) := (blk_cell BK176.out 17).trans rfl
         have hcz56_18 : wc.cell? ⟨gb176, 18, none⟩ = some (.int .i64 a0_18) := (blk_cell BK176.out 18).trans rfl
         have hcz56_19 : wc.cell? ⟨gb176, 19, none⟩ = some (.int .i64 a0_19) := (blk_cell BK176.out 19).trans rfl
         have hfz56_0 := blk_frozen BK176.out 0
         have hfz56_1 := blk_frozen BK176.out 1
         have hfz56_2 := blk_frozen BK176.out 2
         have hfz56_3 := blk_frozen BK176.out 3
         have hfz56_4 := blk_frozen BK176.out 4
         have hfz56_5 := blk_frozen BK176.out 5
         have hfz56_6 := blk_frozen BK176.out 6
         have hfz56_7 := blk_frozen BK176.out 7
         have hfz56_8 := blk_frozen BK176.out 8
         have hfz56_9 := blk_frozen BK176.out 9
         have hfz56_10 := blk_frozen BK176.out 10
         have hfz56_11 := blk_frozen BK176.out 11
         have hfz56_12 := blk_frozen BK176.out 12
         have hfz56_13 := blk_frozen BK176.out 13
         have hfz56_14 := blk_frozen BK176.out 14
         have hfz56_15 := blk_frozen BK176.out 15
         have hfz56_16 := blk_frozen BK176.out 16
         have hfz56_17 := blk_frozen BK176.out 17
         have hfz56_18 := blk_frozen BK176.out 18
         have hfz56_19 := blk_frozen BK176.out 19
         have hcz57_0 : wc.cell? ⟨gb177, 0, none⟩ = some (.int .i64 a1_0) := (blk_cell BK177.out 0).trans rfl
         have hcz57_1 : wc.cell? ⟨gb177, 1, none⟩ = some (.int .i64 a1_1) := (blk_cell BK177.out 1).trans rfl
         have hcz57_2 : wc.cell? ⟨gb177, 2, none⟩ = some (.slice A1_2 l1_2.length c1_2) := (blk_cell BK177.out 2).trans rfl
         have hcz57_3 : wc.cell? ⟨gb177, 3, none⟩ = some (.slice none 0 0) := (blk_cell BK177.out 3).trans rfl
         have hcz57_4 : wc.cell? ⟨gb177, 4, none⟩ = some (.int .i64 a1_4) := (blk_cell BK177.out 4).trans rfl
         have hcz57_5 : wc.cell? ⟨gb177, 5, none⟩ = some (.int .i64 a1_5) := (blk_cell BK177.out 5).trans rfl
         have hcz57_6 : wc.cell? ⟨gb177, 6, none⟩ = some (.bool a1_6) := (blk_cell BK177.out 6).trans rfl
         have hcz57_7 : wc.cell? ⟨gb177, 7, none⟩ = some (.int .i64 a1_7) := (blk_cell BK177.out 7).trans rfl
         have hcz57_8 : wc.cell? ⟨gb177, 8, none⟩ = some (.int .i64 a1_8) := (blk_cell BK177.out 8).trans rfl
         have hcz57_9 : wc.cell? ⟨gb177, 9, none⟩ = some (.int .i64 a1_9) := (blk_cell BK177.out 9).trans rfl
         have hcz57_10 : wc.cell? ⟨gb177, 10, none⟩ = some (.bool a1_10) := (blk_cell BK177.out 10).trans rfl
         have hcz57_11 : wc.cell? ⟨gb177, 11, none⟩ = some (.bool a1_11) := (blk_cell BK177.out 11).trans rfl
         have hcz57_12 : wc.cell? ⟨gb177, 12, none⟩ = some (.bool a1_12) := (blk_cell BK177.out 12).trans rfl
         have hcz57_13 : wc.cell? ⟨gb177, 13, none⟩ = some (.slice A1_13 l1_13.length c1_13) := (blk_cell BK177.out 13).trans rfl
         have hcz57_14 : wc.cell? ⟨gb177, 14, none⟩ = some (.int .i64 a1_14) := (blk_cell BK177.out 14).trans rfl
         have hcz57_15 : wc.cell? ⟨gb177, 15, none⟩ = some (.int .i64 a1_15) := (blk_cell BK177.out 15).trans rfl
         have hcz57_16 : wc.cell? ⟨gb177, 16, none⟩ = some (.int .i64 a1_16) := (blk_cell BK177.out 16).trans rfl
         have hcz57_17 : wc.cell? ⟨gb177, 17, none⟩ = some (.slice A1_17 l1_17.length c1_17) := (blk_cell BK177.out 17).trans rfl
         have hcz57_18 : wc.cell? ⟨gb177, 18, none⟩ = some (.int .i64 a1_18) := (blk_cell BK177.out 18).trans rfl
         have hcz57_19 : wc.cell? ⟨gb177, 19, none⟩ = some (.int .i64 a1_19) := (blk_cell BK177.out 19).trans rfl
         have hfz57_0 := blk_frozen BK177.out 0
         have hfz57_1 := blk_frozen BK177.out 1
         have hfz57_2 := blk_frozen BK177.out 2
         have hfz57_3 := blk_frozen BK177.out 3
         have hfz57_4 := blk_frozen BK177.out 4
         have hfz57_5 := blk_frozen BK177.out 5
         have hfz57_6 := blk_frozen BK177.out 6
         have hfz57_7 := blk_frozen BK177.out 7
         have hfz57_8 := blk_frozen BK177.out 8
         have hfz57_9 := blk_frozen BK177.out 9
         have hfz57_10 := blk_frozen BK177.out 10
         have hfz57_11 := blk_frozen BK177.out 11
         have hfz57_12 := blk_frozen BK177.out 12
         have hfz57_13 := blk_frozen BK177.out 13
         have hfz57_14 := blk_frozen BK177.out 14
         have hfz57_15 := blk_frozen BK177.out 15
         have hfz57_16 := blk_frozen BK177.out 16
         have hfz57_17 := blk_frozen BK177.out 17
         have hfz57_18 := blk_frozen BK177.out 18
         have hfz57_19 := blk_frozen BK177.out 19
         go_wp2_with (first | (go_at_call 28; (refine (impl_SameGrids.calls kj23 a0_0 a0_1 _ _ l0_2 _ _ ([] : List (S107)) a1_0 a1_1 _ _ l1_2 _ _ ([] : List (S107)) true _ ?side1 ?side2 ?side3 ?side4 ?side5 ?side6 ?side7 ?side8 A50.out).mono ?_); (case side1 => repeat (first | exact (Kd.C_below HR0_2.out HB.out) | (with_reducible refine Kd.C_alloc ?_ _) | (with_reducible refine Kd.C_drewN ?_ _) | (with_reducible refine Kd.C_drew ?_))); (case side2 => exact HC0_2.out); (case side3 => exact Kd.C_nil _ _); (case side4 => exact Nat.le_refl _); (case side5 => repeat (first | exact (Kd.C_below HR1_2.out HB.out) | (with_reducible refine Kd.C_alloc ?_ _) | (with_reducible refine Kd.C_drewN ?_ _) | (with_reducible refine Kd.C_drew ?_))); (case side6 => exact HC1_2.out); (case side7 => exact Kd.C_nil _ _); (case side8 => exact Nat.le_refl _); rintro e w58 ⟨rfl, hb⟩; have n0_ := Aside0.mk (blkb hb BK176.out); have n1_ := Aside0.mk (blkb hb BK177.out); have n2_ := Aside0.mk (below_step (by repeat (first | (with_reducible first | exact HB.out | apply below_alloc | apply pw_below_drewN | apply below_drew1 | refine below_set ?_ GE176.out | refine below_set ?_ GE177.out) | exact HB.out)) hb); clear BK176; clear BK177; clear HB; have BK176 := n0_; have BK177 := n1_; have HB := n2_; clear n0_ n1_ n2_; (try clear hb); (try clear hb2); (try clear hk); (try clear hi); have hcz59_0 : w58.cell? ⟨gb176, 0, none⟩ = some (.int .i64 a0_0) := (blk_cell BK176.out 0).trans rfl; have hcz59_1 : w58.cell? ⟨gb176, 1, none⟩ = some (.int .i64 a0_1) := (blk_cell BK176.out 1).trans rfl; have hcz59_2 : w58.cell? ⟨gb176, 2, none⟩ = some (.slice A0_2 l0_2.length c0_2) := (blk_cell BK176.out 2).trans rfl; have hcz59_3 : w58.cell? ⟨gb176, 3, none⟩ = some (.slice none 0 0) := (blk_cell BK176.out 3).trans rfl; have hcz59_4 : w58.cell? ⟨gb176, 4, none⟩ = some (.int .i64 a0_4) := (blk_cell BK176.out 4).trans rfl; have hcz59_5 : w58.cell? ⟨gb176, 5, none⟩ = some (.int .i64 a0_5) := (blk_cell BK176.out 5).trans rfl; have hcz59_6 : w58.cell? ⟨gb176, 6, none⟩ = some (.bool a0_6) := (blk_cell BK176.out 6).trans rfl; have hcz59_7 : w58.cell? ⟨gb176, 7, none⟩ = some (.int .i64 a0_7) := (blk_cell BK176.out 7).trans rfl; have hcz59_8 : w58.cell? ⟨gb176, 8, none⟩ = some (.int .i64 a0_8) := (blk_cell BK176.out 8).trans rfl; have hcz59_9 : w58.cell? ⟨gb176, 9, none⟩ = some (.int .i64 a0_9) := (blk_cell BK176.out 9).trans rfl; have hcz59_10 : w58.cell? ⟨gb176, 10, none⟩ = some (.bool a0_10) := (blk_cell BK176.out 10).trans rfl; have hcz59_11 : w58.cell? ⟨gb176, 11, none⟩ = some (.bool a0_11) := (blk_cell BK176.out 11).trans rfl; have hcz59_12 : w58.cell? ⟨gb176, 12, none⟩ = some (.bool a0_12) := (blk_cell BK176.out 12).trans rfl; have hcz59_13 : w58.cell? ⟨gb176, 13, none⟩ = some (.slice A0_13 l0_13.length c0_13) := (blk_cell BK176.out 13).trans rfl; have hcz59_14 : w58.cell? ⟨gb176, 14, none⟩ = some (.int .i64 a0_14) := (blk_cell BK176.out 14).trans rfl; have hcz59_15 : w58.cell? ⟨gb176, 15, none⟩ = some (.int .i64 a0_15) := (blk_cell BK176.out 15).trans rfl; have hcz59_16 : w58.cell? ⟨gb176, 16, none⟩ = some (.int .i64 a0_16) := (blk_cell BK176.out 16).trans rfl; have hcz59_17 : w58.cell? ⟨gb176, 17, none⟩ = some (.slice A0_17 l0_17.length c0_17) := (blk_cell BK176.out 17).trans rfl; have hcz59_18 : w58.cell? ⟨gb176, 18, none⟩ = some (.int .i64 a0_18) := (blk_cell BK176.out 18).trans rfl; have hcz59_19 : w58.cell? ⟨gb176, 19, none⟩ = some (.int .i64 a0_19) := (blk_cell BK176.out 19).trans rfl; have hfz59_0 := blk_frozen BK176.out 0; have hfz59_1 := blk_frozen BK176.out 1; have hfz59_2 := blk_frozen BK176.out 2; have hfz59_3 := blk_frozen BK176.out 3; have hfz59_4 := blk_frozen BK176.out 4; have hfz59_5 := blk_frozen BK176.out 5; have hfz59_6 := blk_frozen BK176.out 6; have hfz59_7 := blk_frozen BK176.out 7; have hfz59_8 := blk_frozen BK176.out 8; have hfz59_9 := blk_frozen BK176.out 9; have hfz59_10 := blk_frozen BK176.out 10; have hfz59_11 := blk_frozen BK176.out 11; have hfz59_12 := blk_frozen BK176.out 12; have hfz59_13 := blk_frozen BK176.out 13; have hfz59_14 := blk_frozen BK176.out 14; have hfz59_15 := blk_frozen BK176.out 15; have hfz59_16 := blk_frozen BK176.out 16; have hfz59_17 := blk_frozen BK176.out 17; have hfz59_18 := blk_frozen BK176.out 18; have hfz59_19 := blk_frozen BK176.out 19; have hcz60_0 : w58.cell? ⟨gb177, 0, none⟩ = some (.int .i64 a1_0) := (blk_cell BK177.out 0).trans rfl; have hcz60_1 : w58.cell? ⟨gb177, 1, none⟩ = some (.int .i64 a1_1) := (blk_cell BK177.out 1).trans rfl; have hcz60_2 : w58.cell? ⟨gb177, 2, none⟩ = some (.slice A1_2 l1_2.length c1_2) := (blk_cell BK177.out 2).trans rfl; have hcz60_3 : w58.cell? ⟨gb177, 3, none⟩ = some (.slice none 0 0) := (blk_cell BK177.out 3).trans rfl; have hcz60_4 : w58.cell? ⟨gb177, 4, none⟩ = some (.int .i64 a1_4) := (blk_cell BK177.out 4).trans rfl; have hcz60_5 : w58.cell? ⟨gb177, 5, none⟩ = some (.int .i64 a1_5) := (blk_cell BK177.out 5).trans rfl; have hcz60_6 : w58.cell? ⟨gb177, 6, none⟩ = some (.bool a1_6) := (blk_cell BK177.out 6).trans rfl; have hcz60_7 : w58.cell? ⟨gb177, 7, none⟩ = some (.int .i64 a1_7) := (blk_cell BK177.out 7).trans rfl; have hcz60_8 : w58.cell? ⟨gb177, 8, none⟩ = some (.int .i64 a1_8) := (blk_cell BK177.out 8).trans rfl; have hcz60_9 : w58.cell? ⟨gb177, 9, none⟩ = some (.int .i64 a1_9) := (blk_cell BK177.out 9).trans rfl; have hcz60_10 : w58.cell? ⟨gb177, 10, none⟩ = some (.bool a1_10) := (blk_cell BK177.out 10).trans rfl; have hcz60_11 : w58.cell? ⟨gb177, 11, none⟩ = some (.bool a1_11) := (blk_cell BK177.out 11).trans rfl; have hcz60_12 : w58.cell? ⟨gb177, 12, none⟩ = some (.bool a1_12) := (blk_cell BK177.out 12).trans rfl; have hcz60_13 : w58.cell? ⟨gb177, 13, none⟩ = some (.slice A1_13 l1_13.length c1_13) := (blk_cell BK177.out 13).trans rfl; have hcz60_14 : w58.cell? ⟨gb177, 14, none⟩ = some (.int .i64 a1_14) := (blk_cell BK177.out 14).trans rfl; have hcz60_15 : w58.cell? ⟨gb177, 15, none⟩ = some (.int .i64 a1_15) := (blk_cell BK177.out 15).trans rfl; have hcz60_16 : w58.cell? ⟨gb177, 16, none⟩ = some (.int .i64 a1_16) := (blk_cell BK177.out 16).trans rfl; have hcz60_17 : w58.cell? ⟨gb177, 17, none⟩ = some (.slice A1_17 l1_17.length c1_17) := (blk_cell BK177.out 17).trans rfl; have hcz60_18 : w58.cell? ⟨gb177, 18, none⟩ = some (.int .i64 a1_18) := (blk_cell BK177.out 18).trans rfl; have hcz60_19 : w58.cell? ⟨gb177, 19, none⟩ = some (.int .i64 a1_19) := (blk_cell BK177.out 19).trans rfl; have hfz60_0 := blk_frozen BK177.out 0; have hfz60_1 := blk_frozen BK177.out 1; have hfz60_2 := blk_frozen BK177.out 2; have hfz60_3 := blk_frozen BK177.out 3; have hfz60_4 := blk_frozen BK177.out 4; have hfz60_5 := blk_frozen BK177.out 5; have hfz60_6 := blk_frozen BK177.out 6; have hfz60_7 := blk_frozen BK177.out 7; have hfz60_8 := blk_frozen BK177.out 8; have hfz60_9 := blk_frozen BK177.out 9; have hfz60_10 := blk_frozen BK177.out 10; have hfz60_11 := blk_frozen BK177.out 11; have hfz60_12 := blk_frozen BK177.out 12; have hfz60_13 := blk_frozen BK177.out 13; have hfz60_14 := blk_frozen BK177.out 14; have hfz60_15 := blk_frozen BK177.out 15; have hfz60_16 := blk_frozen BK177.out 16; have hfz60_17 := blk_frozen BK177.out 17; have hfz60_18 := blk_frozen BK177.out 18; have hfz60_19 := blk_frozen BK177.out 19) | (go_at_call 88; (with_reducible refine (slices_Equal_bool_bool.calls kj23 _ _ l0_13 _ _ l1_13 true _ ?side1 ?side2 ?side3 ?side4 A52.out).mono ?_); (case side1 => repeat (first | exact (Kd.C_below HR0_13.out HB.out) | (with_reducible refine Kd.C_alloc ?_ _) | (with_reducible refine Kd.C_drewN ?_ _) | (with_reducible refine Kd.C_drew ?_))); (case side2 => exact HC0_13.out); (case side3 => repeat (first | exact (Kd.C_below HR1_13.out HB.out) | (with_reducible refine Kd.C_alloc ?_ _) | (with_reducible refine Kd.C_drewN ?_ _) | (with_reducible refine Kd.C_drew ?_))); (case side4 => exact HC1_13.out); rintro e w' ⟨rfl, ⟨nd, rfl⟩⟩) | (go_at_call 69; (with_reducible refine (slices_Equal_int64_int64.calls kj23 _ _ l0_17 _ _ l1_17 t180 _ ?side1 ?side2 ?side3 ?side4 A54.out).mono ?_); (case side1 => repeat (first | exact (Kd.C_below HR0_17.out (by repeat (first | (with_reducible first | exact HB.out | apply below_alloc | apply pw_below_drewN | apply below_drew1 | refine below_set ?_ GE176.out | refine below_set ?_ GE177.out) | exact HB.out))) | (with_reducible refine Kd.C_alloc ?_ _) | (with_reducible refine Kd.C_drewN ?_ _) | (with_reducible refine Kd.C_drew ?_))); (case side2 => exact HC0_17.out); (case side3 => repeat (first | exact (Kd.C_below HR1_17.out (by repeat (first | (with_reducible first | exact HB.out | apply below_alloc | apply pw_below_drewN | apply below_drew1 | refine below_set ?_ GE176.out | refine below_set ?_ GE177.out) | exact HB.out))) | (with_reducible refine Kd.C_alloc ?_ _) | (with_reducible refine Kd.C_drewN ?_ _) | (with_reducible refine Kd.C_drew ?_))); (case side4 => exact HC1_17.out); rintro e w' ⟨rfl, ⟨nd, rfl⟩⟩))
         go_ret
         exact ⟨by first | rfl | (simp [errW_none, errW_some] <;> rfl) | (simp [*, errW_none, errW_some] <;> rfl), by repeat (first | (with_reducible first | exact HB.out | apply below_alloc | apply pw_below_drewN | apply below_drew1 | refine below_set ?_ GE176.out | refine below_set ?_ GE177.out) | exact HB.out)⟩
        ·replace c53 := Bool.eq_false_iff.mpr c53
         subst c53
         have H1 : (some false) = some r := by rw [if_neg (show ¬ (false = true) by decide)] at H; exact H
         clear H
         have H := H1
         clear H1
         obtain rfl := Option.some.inj H
         have hnb61 := NB176_177.out
         have hnc61 := NB177_176.out
         have hcz62_0 : wc.cell? ⟨gb176, 0, none⟩ = some (.int .i64 a0_0) := (blk_cell BK176.out 0).trans rfl
         have hcz62_1 : wc.cell? ⟨gb176, 1, none⟩ = some (.int .i64 a0_1) := (blk_cell BK176.out 1).trans rfl
         have hcz62_2 : wc.cell? ⟨gb176, 2, none⟩ = some (.slice A0_2 l0_2.length c0_2) := (blk_cell BK176.out 2).trans rfl
         have hcz62_3 : wc.cell? ⟨gb176, 3, none⟩ = some (.slice none 0 0) := (blk_cell BK176.out 3).trans rfl
         have hcz62_4 : wc.cell? ⟨gb176, 4, none⟩ = some (.int .i64 a0_4) := (blk_cell BK176.out 4).trans rfl
         have hcz62_5 : wc.cell? ⟨gb176, 5, none⟩ = some (.int .i64 a0_5) := (blk_cell BK176.out 5).trans rfl
         have hcz62_6 : wc.cell? ⟨gb176, 6, none⟩ = some (.bool a0_6) := (blk_cell BK176.out 6).trans rfl
         have hcz62_7 : wc.cell? ⟨gb176, 7, none⟩ = some (.int .i64 a0_7) := (blk_cell BK176.out 7).trans rfl
         have hcz62_8 : wc.cell? ⟨gb176, 8, none⟩ = some (.int .i64 a0_8) := (blk_cell BK176.out 8).trans rfl
         have hcz62_9 : wc.cell? ⟨gb176, 9, none⟩ = some (.int .i64 a0_9) := (blk_cell BK176.out 9).trans rfl
         have hcz62_10 : wc.cell? ⟨gb176, 10, none⟩ = some (.bool a0_10) := (blk_cell BK176.out 10).trans rfl
         have hcz62_11 : wc.cell? ⟨gb176, 11, none⟩ = some (.bool a0_11) := (blk_cell BK176.out 11).trans rfl
         have hcz62_12 : wc.cell? ⟨gb176, 12, none⟩ = some (.bool a0_12) := (blk_cell BK176.out 12).trans rfl
         have hcz62_13 : wc.cell? ⟨gb176, 13, none⟩ = some (.slice A0_13 l0_13.length c0_13) := (blk_cell BK176.out 13).trans rfl
         have hcz62_14 : wc.cell? ⟨gb176, 14, none⟩ = some (.int .i64 a0_14) := (blk_cell BK176.out 14).trans rfl
         have hcz62_15 : wc.cell? ⟨gb176, 15, none⟩ = some (.int .i64 a0_15) := (blk_cell BK176.out 15).trans rfl
         have hcz62_16 : wc.cell? ⟨gb176, 16, none⟩ = some (.int .i64 a0_16) := (blk_cell BK176.out 16).trans rfl
         have hcz62_17 : wc.cell? ⟨gb176, 17, none⟩ = some (.slice A0_17 l0_17.length c0_17) := (blk_cell BK176.out 17).trans rfl
         have hcz62_18 : wc.cell? ⟨gb176, 18, none⟩ = some (.int .i64 a0_18) := (blk_cell BK176.out 18).trans rfl
         have hcz62_19 : wc.cell? ⟨gb176, 19, none⟩ = some (.int .i64 a0_19) := (blk_cell BK176.out 19).trans rfl
         have hfz62_0 := blk_frozen BK176.out 0
         have hfz62_1 := blk_frozen BK176.out 1
         have hfz62_2 := blk_frozen BK176.out 2
         have hfz62_3 := blk_frozen BK176.out 3
         have hfz62_4 := blk_frozen BK176.out 4
         have hfz62_5 := blk_frozen BK176.out 5
         have hfz62_6 := blk_frozen BK176.out 6
         have hfz62_7 := blk_frozen BK176.out 7
         have hfz62_8 := blk_frozen BK176.out 8
         have hfz62_9 := blk_frozen BK176.out 9
         have hfz62_10 := blk_frozen BK176.out 10
         have hfz62_11 := blk_frozen BK176.out 11
         have hfz62_12 := blk_frozen BK176.out 12
         have hfz62_13 := blk_frozen BK176.out 13
         have hfz62_14 := blk_frozen BK176.out 14
         have hfz62_15 := blk_frozen BK176.out 15
         have hfz62_16 := blk_frozen BK176.out 16
         have hfz62_17 := blk_frozen BK176.out 17
         have hfz62_18 := blk_frozen BK176.out 18
         have hfz62_19 := blk_frozen BK176.out 19
         have hcz63_0 : wc.cell? ⟨gb177, 0, none⟩ = some (.int .i64 a1_0) := (blk_cell BK177.out 0).trans rfl
         have hcz63_1 : wc.cell? ⟨gb177, 1, none⟩ = some (.int .i64 a1_1) := (blk_cell BK177.out 1).trans rfl
         have hcz63_2 : wc.cell? ⟨gb177, 2, none⟩ = some (.slice A1_2 l1_2.length c1_2) := (blk_cell BK177.out 2).trans rfl
         have hcz63_3 : wc.cell? ⟨gb177, 3, none⟩ = some (.slice none 0 0) := (blk_cell BK177.out 3).trans rfl
         have hcz63_4 : wc.cell? ⟨gb177, 4, none⟩ = some (.int .i64 a1_4) := (blk_cell BK177.out 4).trans rfl
         have hcz63_5 : wc.cell? ⟨gb177, 5, none⟩ = some (.int .i64 a1_5) := (blk_cell BK177.out 5).trans rfl
         have hcz63_6 : wc.cell? ⟨gb177, 6, none⟩ = some (.bool a1_6) := (blk_cell BK177.out 6).trans rfl
         have hcz63_7 : wc.cell? ⟨gb177, 7, none⟩ = some (.int .i64 a1_7) := (blk_cell BK177.out 7).trans rfl
         have hcz63_8 : wc.cell? ⟨gb177, 8, none⟩ = some (.int .i64 a1_8) := (blk_cell BK177.out 8).trans rfl
         have hcz63_9 : wc.cell? ⟨gb177, 9, none⟩ = some (.int .i64 a1_9) := (blk_cell BK177.out 9).trans rfl
         have hcz63_10 : wc.cell? ⟨gb177, 10, none⟩ = some (.bool a1_10) := (blk_cell BK177.out 10).trans rfl
         have hcz63_11 : wc.cell? ⟨gb177, 11, none⟩ = some (.bool a1_11) := (blk_cell BK177.out 11).trans rfl
         have hcz63_12 : wc.cell? ⟨gb177, 12, none⟩ = some (.bool a1_12) := (blk_cell BK177.out 12).trans rfl
         have hcz63_13 : wc.cell? ⟨gb177, 13, none⟩ = some (.slice A1_13 l1_13.length c1_13) := (blk_cell BK177.out 13).trans rfl
         have hcz63_14 : wc.cell? ⟨gb177, 14, none⟩ = some (.int .i64 a1_14) := (blk_cell BK177.out 14).trans rfl
         have hcz63_15 : wc.cell? ⟨gb177, 15, none⟩ = some (.int .i64 a1_15) := (blk_cell BK177.out 15).trans rfl
         have hcz63_16 : wc.cell? ⟨gb177, 16, none⟩ = some (.int .i64 a1_16) := (blk_cell BK177.out 16).trans rfl
         have hcz63_17 : wc.cell? ⟨gb177, 17, none⟩ = some (.slice A1_17 l1_17.length c1_17) := (blk_cell BK177.out 17).trans rfl
         have hcz63_18 : wc.cell? ⟨gb177, 18, none⟩ = some (.int .i64 a1_18) := (blk_cell BK177.out 18).trans rfl
         have hcz63_19 : wc.cell? ⟨gb177, 19, none⟩ = some (.int .i64 a1_19) := (blk_cell BK177.out 19).trans rfl
         have hfz63_0 := blk_frozen BK177.out 0
         have hfz63_1 := blk_frozen BK177.out 1
         have hfz63_2 := blk_frozen BK177.out 2
         have hfz63_3 := blk_frozen BK177.out 3
         have hfz63_4 := blk_frozen BK177.out 4
         have hfz63_5 := blk_frozen BK177.out 5
         have hfz63_6 := blk_frozen BK177.out 6
         have hfz63_7 := blk_frozen BK177.out 7
         have hfz63_8 := blk_frozen BK177.out 8
         have hfz63_9 := blk_frozen BK177.out 9
         have hfz63_10 := blk_frozen BK177.out 10
         have hfz63_11 := blk_frozen BK177.out 11
         have hfz63_12 := blk_frozen BK177.out 12
         have hfz63_13 := blk_frozen BK177.out 13
         have hfz63_14 := blk_frozen BK177.out 14
         have hfz63_15 := blk_frozen BK177.out 15
         have hfz63_16 := blk_frozen BK177.out 16
         have hfz63_17 := blk_frozen BK177.out 17
         have hfz63_18 := blk_frozen BK177.out 18
         have hfz63_19 := blk_frozen BK177.out 19
         go_wp2_with (first | (go_at_call 28; (refine (impl_SameGrids.calls kj23 a0_0 a0_1 _ _ l0_2 _ _ ([] : List (S107)) a1_0 a1_1 _ _ l1_2 _ _ ([] : List (S107)) true _ ?side1 ?side2 ?side3 ?side4 ?side5 ?side6 ?side7 ?side8 A50.out).mono ?_); (case side1 => repeat (first | exact (Kd.C_below HR0_2.out HB.out) | (with_reducible refine Kd.C_alloc ?_ _) | (with_reducible refine Kd.C_drewN ?_ _) | (with_reducible refine Kd.C_drew ?_))); (case side2 => exact HC0_2.out); (case side3 => exact Kd.C_nil _ _); (case side4 => exact Nat.le_refl _); (case side5 => repeat (first | exact (Kd.C_below HR1_2.out HB.out) | (with_reducible refine Kd.C_alloc ?_ _) | (with_reducible refine Kd.C_drewN ?_ _) | (with_reducible refine Kd.C_drew ?_))); (case side6 => exact HC1_2.out); (case side7 => exact Kd.C_nil _ _); (case side8 => exact Nat.le_refl _); rintro e w64 ⟨rfl, hb⟩; have n0_ := Aside0.mk (blkb hb BK176.out); have n1_ := Aside0.mk (blkb hb BK177.out); have n2_ := Aside0.mk (below_step (by repeat (first | (with_reducible first | exact HB.out | apply below_alloc | apply pw_below_drewN | apply below_drew1 | refine below_set ?_ GE176.out | refine below_set ?_ GE177.out) | exact HB.out)) hb); clear BK176; clear BK177; clear HB; have BK176 := n0_; have BK177 := n1_; have HB := n2_; clear n0_ n1_ n2_; (try clear hb); (try clear hb2); (try clear hk); (try clear hi); have hcz65_0 : w64.cell? ⟨gb176, 0, none⟩ = some (.int .i64 a0_0) := (blk_cell BK176.out 0).trans rfl; have hcz65_1 : w64.cell? ⟨gb176, 1, none⟩ = some (.int .i64 a0_1) := (blk_cell BK176.out 1).trans rfl; have hcz65_2 : w64.cell? ⟨gb176, 2, none⟩ = some (.slice A0_2 l0_2.length c0_2) := (blk_cell BK176.out 2).trans rfl; have hcz65_3 : w64.cell? ⟨gb176, 3, none⟩ = some (.slice none 0 0) := (blk_cell BK176.out 3).trans rfl; have hcz65_4 : w64.cell? ⟨gb176, 4, none⟩ = some (.int .i64 a0_4) := (blk_cell BK176.out 4).trans rfl; have hcz65_5 : w64.cell? ⟨gb176, 5, none⟩ = some (.int .i64 a0_5) := (blk_cell BK176.out 5).trans rfl; have hcz65_6 : w64.cell? ⟨gb176, 6, none⟩ = some (.bool a0_6) := (blk_cell BK176.out 6).trans rfl; have hcz65_7 : w64.cell? ⟨gb176, 7, none⟩ = some (.int .i64 a0_7) := (blk_cell BK176.out 7).trans rfl; have hcz65_8 : w64.cell? ⟨gb176, 8, none⟩ = some (.int .i64 a0_8) := (blk_cell BK176.out 8).trans rfl; have hcz65_9 : w64.cell? ⟨gb176, 9, none⟩ = some (.int .i64 a0_9) := (blk_cell BK176.out 9).trans rfl; have hcz65_10 : w64.cell? ⟨gb176, 10, none⟩ = some (.bool a0_10) := (blk_cell BK176.out 10).trans rfl; have hcz65_11 : w64.cell? ⟨gb176, 11, none⟩ = some (.bool a0_11) := (blk_cell BK176.out 11).trans rfl; have hcz65_12 : w64.cell? ⟨gb176, 12, none⟩ = some (.bool a0_12) := (blk_cell BK176.out 12).trans rfl; have hcz65_13 : w64.cell? ⟨gb176, 13, none⟩ = some (.slice A0_13 l0_13.length c0_13) := (blk_cell BK176.out 13).trans rfl; have hcz65_14 : w64.cell? ⟨gb176, 14, none⟩ = some (.int .i64 a0_14) := (blk_cell BK176.out 14).trans rfl; have hcz65_15 : w64.cell? ⟨gb176, 15, none⟩ = some (.int .i64 a0_15) := (blk_cell BK176.out 15).trans rfl; have hcz65_16 : w64.cell? ⟨gb176, 16, none⟩ = some (.int .i64 a0_16) := (blk_cell BK176.out 16).trans rfl; have hcz65_17 : w64.cell? ⟨gb176, 17, none⟩ = some (.slice A0_17 l0_17.length c0_17) := (blk_cell BK176.out 17).trans rfl; have hcz65_18 : w64.cell? ⟨gb176, 18, none⟩ = some (.int .i64 a0_18) := (blk_cell BK176.out 18).trans rfl; have hcz65_19 : w64.cell? ⟨gb176, 19, none⟩ = some (.int .i64 a0_19) := (blk_cell BK176.out 19).trans rfl; have hfz65_0 := blk_frozen BK176.out 0; have hfz65_1 := blk_frozen BK176.out 1; have hfz65_2 := blk_frozen BK176.out 2; have hfz65_3 := blk_frozen BK176.out 3; have hfz65_4 := blk_frozen BK176.out 4; have hfz65_5 := blk_frozen BK176.out 5; have hfz65_6 := blk_frozen BK176.out 6; have hfz65_7 := blk_frozen BK176.out 7; have hfz65_8 := blk_frozen BK176.out 8; have hfz65_9 := blk_frozen BK176.out 9; have hfz65_10 := blk_frozen BK176.out 10; have hfz65_11 := blk_frozen BK176.out 11; have hfz65_12 := blk_frozen BK176.out 12; have hfz65_13 := blk_frozen BK176.out 13; have hfz65_14 := blk_frozen BK176.out 14; have hfz65_15 := blk_frozen BK176.out 15; have hfz65_16 := blk_frozen BK176.out 16; have hfz65_17 := blk_frozen BK176.out 17; have hfz65_18 := blk_frozen BK176.out 18; have hfz65_19 := blk_frozen BK176.out 19; have hcz66_0 : w64.cell? ⟨gb177, 0, none⟩ = some (.int .i64 a1_0) := (blk_cell BK177.out 0).trans rfl; have hcz66_1 : w64.cell? ⟨gb177, 1, none⟩ = some (.int .i64 a1_1) := (blk_cell BK177.out 1).trans rfl; have hcz66_2 : w64.cell? ⟨gb177, 2, none⟩ = some (.slice A1_2 l1_2.length c1_2) := (blk_cell BK177.out 2).trans rfl; have hcz66_3 : w64.cell? ⟨gb177, 3, none⟩ = some (.slice none 0 0) := (blk_cell BK177.out 3).trans rfl; have hcz66_4 : w64.cell? ⟨gb177, 4, none⟩ = some (.int .i64 a1_4) := (blk_cell BK177.out 4).trans rfl; have hcz66_5 : w64.cell? ⟨gb177, 5, none⟩ = some (.int .i64 a1_5) := (blk_cell BK177.out 5).trans rfl; have hcz66_6 : w64.cell? ⟨gb177, 6, none⟩ = some (.bool a1_6) := (blk_cell BK177.out 6).trans rfl; have hcz66_7 : w64.cell? ⟨gb177, 7, none⟩ = some (.int .i64 a1_7) := (blk_cell BK177.out 7).trans rfl; have hcz66_8 : w64.cell? ⟨gb177, 8, none⟩ = some (.int .i64 a1_8) := (blk_cell BK177.out 8).trans rfl; have hcz66_9 : w64.cell? ⟨gb177, 9, none⟩ = some (.int .i64 a1_9) := (blk_cell BK177.out 9).trans rfl; have hcz66_10 : w64.cell? ⟨gb177, 10, none⟩ = some (.bool a1_10) := (blk_cell BK177.out 10).trans rfl; have hcz66_11 : w64.cell? ⟨gb177, 11, none⟩ = some (.bool a1_11) := (blk_cell BK177.out 11).trans rfl; have hcz66_12 : w64.cell? ⟨gb177, 12, none⟩ = some (.bool a1_12) := (blk_cell BK177.out 12).trans rfl; have hcz66_13 : w64.cell? ⟨gb177, 13, none⟩ = some (.slice A1_13 l1_13.length c1_13) := (blk_cell BK177.out 13).trans rfl; have hcz66_14 : w64.cell? ⟨gb177, 14, none⟩ = some (.int .i64 a1_14) := (blk_cell BK177.out 14).trans rfl; have hcz66_15 : w64.cell? ⟨gb177, 15, none⟩ = some (.int .i64 a1_15) := (blk_cell BK177.out 15).trans rfl; have hcz66_16 : w64.cell? ⟨gb177, 16, none⟩ = some (.int .i64 a1_16) := (blk_cell BK177.out 16).trans rfl; have hcz66_17 : w64.cell? ⟨gb177, 17, none⟩ = some (.slice A1_17 l1_17.length c1_17) := (blk_cell BK177.out 17).trans rfl; have hcz66_18 : w64.cell? ⟨gb177, 18, none⟩ = some (.int .i64 a1_18) := (blk_cell BK177.out 18).trans rfl; have hcz66_19 : w64.cell? ⟨gb177, 19, none⟩ = some (.int .i64 a1_19) := (blk_cell BK177.out 19).trans rfl; have hfz66_0 := blk_frozen BK177.out 0; have hfz66_1 := blk_frozen BK177.out 1; have hfz66_2 := blk_frozen BK177.out 2; have hfz66_3 := blk_frozen BK177.out 3; have hfz66_4 := blk_frozen BK177.out 4; have hfz66_5 := blk_frozen BK177.out 5; have hfz66_6 := blk_frozen BK177.out 6; have hfz66_7 := blk_frozen BK177.out 7; have hfz66_8 := blk_frozen BK177.out 8; have hfz66_9 := blk_frozen BK177.out 9; have hfz66_10 := blk_frozen BK177.out 10; have hfz66_11 := blk_frozen BK177.out 11; have hfz66_12 := blk_frozen BK177.out 12; have hfz66_13 := blk_frozen BK177.out 13; have hfz66_14 := blk_frozen BK177.out 14; have hfz66_15 := blk_frozen BK177.out 15; have hfz66_16 := blk_frozen BK177.out 16; have hfz66_17 := blk_frozen BK177.out 17; have hfz66_18 := blk_frozen BK177.out 18; have hfz66_19 := blk_frozen BK177.out 19) | (go_at_call 88; (with_reducible refine (slices_Equal_bool_bool.calls kj23 _ _ l0_13 _ _ l1_13 false _ ?side1 ?side2 ?side3 ?side4 A52.out).mono ?_); (case side1 => repeat (first | exact (Kd.C_below HR0_13.out HB.out) | (with_reducible refine Kd.C_alloc ?_ _) | (with_reducible refine Kd.C_drewN ?_ _) | (with_reducible refine Kd.C_drew ?_))); (case side2 => exact HC0_13.out); (case side3 => repeat (first | exact (Kd.C_below HR1_13.out HB.out) | (with_reducible refine Kd.C_alloc ?_ _) | (with_reducible refine Kd.C_drewN ?_ _) | (with_reducible refine Kd.C_drew ?_))); (case side4 => exact HC1_13.out); rintro e w' ⟨rfl, ⟨nd, rfl⟩⟩))
         go_ret
         exact ⟨by first | rfl | (simp [errW_none, errW_some] <;> rfl) | (simp [*, errW_none, errW_some] <;> rfl), by repeat (first | (with_reducible first | exact HB.out | apply below_alloc | apply pw_below_drewN | apply below_drew1 | refine below_set ?_ GE176.out | refine below_set ?_ GE177.out) | exact HB.out)⟩
       ·replace c51 := Bool.eq_false_iff.mpr c51
        subst c51
        have H1 : (some false) = some r := by rw [if_neg (show ¬ (false = true) by decide)] at H; exact H
        clear H
        have H := H1
        clear H1
        obtain rfl := Option.some.inj H
        have hnb67 := NB176_177.out
        have hnc67 := NB177_176.out
        have hcz68_0 : wc.cell? ⟨gb176, 0, none⟩ = some (.int .i64 a0_0) := (blk_cell BK176.out 0).trans rfl
        have hcz68_1 : wc.cell? ⟨gb176, 1, none⟩ = some (.int .i64 a0_1) := (blk_cell BK176.out 1).trans rfl
        have hcz68_2 : wc.cell? ⟨gb176, 2, none⟩ = some (.slice A0_2 l0_2.length c0_2) := (blk_cell BK176.out 2).trans rfl
        have hcz68_3 : wc.cell? ⟨gb176, 3, none⟩ = some (.slice none 0 0) := (blk_cell BK176.out 3).trans rfl
        have hcz68_4 : wc.cell? ⟨gb176, 4, none⟩ = some (.int .i64 a0_4) := (blk_cell BK176.out 4).trans rfl
        have hcz68_5 : wc.cell? ⟨gb176, 5, none⟩ = some (.int .i64 a0_5) := (blk_cell BK176.out 5).trans rfl
        have hcz68_6 : wc.cell? ⟨gb176, 6, none⟩ = some (.bool a0_6) := (blk_cell BK176.out 6).trans rfl
        have hcz68_7 : wc.cell? ⟨gb176, 7, none⟩ = some (.int .i64 a0_7) := (blk_cell BK176.out 7).trans rfl
        have hcz68_8 : wc.cell? ⟨gb176, 8, none⟩ = some (.int .i64 a0_8) := (blk_cell BK176.out 8).trans rfl
        have hcz68_9 : wc.cell? ⟨gb176, 9, none⟩ = some (.int .i64 a0_9) := (blk_cell BK176.out 9).trans rfl
        have hcz68_10 : wc.cell? ⟨gb176, 10, none⟩ = some (.bool a0_10) := (blk_cell BK176.out 10).trans rfl
        have hcz68_11 : wc.cell? ⟨gb176, 11, none⟩ = some (.bool a0_11) := (blk_cell BK176.out 11).trans rfl
        have hcz68_12 : wc.cell? ⟨gb176, 12, none⟩ = some (.bool a0_12) := (blk_cell BK176.out 12).trans rfl
        have hcz68_13 : wc.cell? ⟨gb176, 13, none⟩ = some (.slice A0_13 l0_13.length c0_13) := (blk_cell BK176.out 13).trans rfl
        have hcz68_14 : wc.cell? ⟨gb176, 14, none⟩ = some (.int .i64 a0_14) := (blk_cell BK176.out 14).trans rfl
        have hcz68_15 : wc.cell? ⟨gb176, 15, none⟩ = some (.int .i64 a0_15) := (blk_cell BK176.out 15).trans rfl
        have hcz68_16 : wc.cell? ⟨gb176, 16, none⟩ = some (.int .i64 a0_16) := (blk_cell BK176.out 16).trans rfl
        have hcz68_17 : wc.cell? ⟨gb176, 17, none⟩ = some (.slice A0_17 l0_17.length c0_17) := (blk_cell BK176.out 17).trans rfl
        have hcz68_18 : wc.cell? ⟨gb176, 18, none⟩ = some (.int .i64 a0_18) := (blk_cell BK176.out 18).trans rfl
        have hcz68_19 : wc.cell? ⟨gb176, 19, none⟩ = some (.int .i64 a0_19) := (blk_cell BK176.out 19).trans rfl
        have hfz68_0 := blk_frozen BK176.out 0
        have hfz68_1 := blk_frozen BK176.out 1
        have hfz68_2 := blk_frozen BK176.out 2
        have hfz68_3 := blk_frozen BK176.out 3
        have hfz68_4 := blk_frozen BK176.out 4
        have hfz68_5 := blk_frozen BK176.out 5
        have hfz68_6 := blk_frozen BK176.out 6
        have hfz68_7 := blk_frozen BK176.out 7
        have hfz68_8 := blk_frozen BK176.out 8
        have hfz68_9 := blk_frozen BK176.out 9
        have hfz68_10 := blk_frozen BK176.out 10
        have hfz68_11 := blk_frozen BK176.out 11
        have hfz68_12 := blk_frozen BK176.out 12
        have hfz68_13 := blk_frozen BK176.out 13
        have hfz68_14 := blk_frozen BK176.out 14
        have hfz68_15 := blk_frozen BK176.out 15
        have hfz68_16 := blk_frozen BK176.out 16
        have hfz68_17 := blk_frozen BK176.out 17
        have hfz68_18 := blk_frozen BK176.out 18
        have hfz68_19 := blk_frozen BK176.out 19
        have hcz69_0 : wc.cell? ⟨gb177, 0, none⟩ = some (.int .i64 a1_0) := (blk_cell BK177.out 0).trans rfl
        have hcz69_1 : wc.cell? ⟨gb177, 1, none⟩ = some (.int .i64 a1_1) := (blk_cell BK177.out 1).trans rfl
        have hcz69_2 : wc.cell? ⟨gb177, 2, none⟩ = some (.slice A1_2 l1_2.length c1_2) := (blk_cell BK177.out 2).trans rfl
        have hcz69_3 : wc.cell? ⟨gb177, 3, none⟩ = some (.slice none 0 0) := (blk_cell BK177.out 3).trans rfl
        have hcz69_4 : wc.cell? ⟨gb177, 4, none⟩ = some (.int .i64 a1_4) := (blk_cell BK177.out 4).trans rfl
        have hcz69_5 : wc.cell? ⟨gb177, 5, none⟩ = some (.int .i64 a1_5) := (blk_cell BK177.out 5).trans rfl
        have hcz69_6 : wc.cell? ⟨gb177, 6, none⟩ = some (.bool a1_6) := (blk_cell BK177.out 6).trans rfl
        have hcz69_7 : wc.cell? ⟨gb177, 7, none⟩ = some (.int .i64 a1_7) := (blk_cell BK177.out 7).trans rfl
        have hcz69_8 : wc.cell? ⟨gb177, 8, none⟩ = some (.int .i64 a1_8) := (blk_cell BK177.out 8).trans rfl
        have hcz69_9 : wc.cell? ⟨gb177, 9, none⟩ = some (.int .i64 a1_9) := (blk_cell BK177.out 9).trans rfl
        have hcz69_10 : wc.cell? ⟨gb177, 10, none⟩ = some (.bool a1_10) := (blk_cell BK177.out 10).trans rfl
        have hcz69_11 : wc.cell? ⟨gb177, 11, none⟩ = some (.bool a1_11) := (blk_cell BK177.out 11).trans rfl
        have hcz69_12 : wc.cell? ⟨gb177, 12, none⟩ = some (.bool a1_12) := (blk_cell BK177.out 12).trans rfl
        have hcz69_13 : wc.cell? ⟨gb177, 13, none⟩ = some (.slice A1_13 l1_13.length c1_13) := (blk_cell BK177.out 13).trans rfl
        have hcz69_14 : wc.cell? ⟨gb177, 14, none⟩ = some (.int .i64 a1_14) := (blk_cell BK177.out 14).trans rfl
        have hcz69_15 : wc.cell? ⟨gb177, 15, none⟩ = some (.int .i64 a1_15) := (blk_cell BK177.out 15).trans rfl
        have hcz69_16 : wc.cell? ⟨gb177, 16, none⟩ = some (.int .i64 a1_16) := (blk_cell BK177.out 16).trans rfl
        have hcz69_17 : wc.cell? ⟨gb177, 17, none⟩ = some (.slice A1_17 l1_17.length c1_17) := (blk_cell BK177.out 17).trans rfl
        have hcz69_18 : wc.cell? ⟨gb177, 18, none⟩ = some (.int .i64 a1_18) := (blk_cell BK177.out 18).trans rfl
        have hcz69_19 : wc.cell? ⟨gb177, 19, none⟩ = some (.int .i64 a1_19) := (blk_cell BK177.out 19).trans rfl
        have hfz69_0 := blk_frozen BK177.out 0
        have hfz69_1 := blk_frozen BK177.out 1
        have hfz69_2 := blk_frozen BK177.out 2
        have hfz69_3 := blk_frozen BK177.out 3
        have hfz69_4 := blk_frozen BK177.out 4
        have hfz69_5 := blk_frozen BK177.out 5
        have hfz69_6 := blk_frozen BK177.out 6
        have hfz69_7 := blk_frozen BK177.out 7
        have hfz69_8 := blk_frozen BK177.out 8
        have hfz69_9 := blk_frozen BK177.out 9
        have hfz69_10 := blk_frozen BK177.out 10
        have hfz69_11 := blk_frozen BK177.out 11
        have hfz69_12 := blk_frozen BK177.out 12
        have hfz69_13 := blk_frozen BK177.out 13
        have hfz69_14 := blk_frozen BK177.out 14
        have hfz69_15 := blk_frozen BK177.out 15
        have hfz69_16 := blk_frozen BK177.out 16
        have hfz69_17 := blk_frozen BK177.out 17
        have hfz69_18 := blk_frozen BK177.out 18
        have hfz69_19 := blk_frozen BK177.out 19
        go_wp2_with (first | (go_at_call 28; (refine (impl_SameGrids.calls kj23 a0_0 a0_1 _ _ l0_2 _ _ ([] : List (S107)) a1_0 a1_1 _ _ l1_2 _ _ ([] : List (S107)) false _ ?side1 ?side2 ?side3 ?side4 ?side5 ?side6 ?side7 ?side8 A50.out).mono ?_); (case side1 => repeat (first | exact (Kd.C_below HR0_2.out HB.out) | (with_reducible refine Kd.C_alloc ?_ _) | (with_reducible refine Kd.C_drewN ?_ _) | (with_reducible refine Kd.C_drew ?_))); (case side2 => exact HC0_2.out); (case side3 => exact Kd.C_nil _ _); (case side4 => exact Nat.le_refl _); (case side5 => repeat (first | exact (Kd.C_below HR1_2.out HB.out) | (with_reducible refine Kd.C_alloc ?_ _) | (with_reducible refine Kd.C_drewN ?_ _) | (with_reducible refine Kd.C_drew ?_))); (case side6 => exact HC1_2.out); (case side7 => exact Kd.C_nil _ _); (case side8 => exact Nat.le_refl _); rintro e w70 ⟨rfl, hb⟩; have n0_ := Aside0.mk (blkb hb BK176.out); have n1_ := Aside0.mk (blkb hb BK177.out); have n2_ := Aside0.mk (below_step (by repeat (first | (with_reducible first | exact HB.out | apply below_alloc | apply pw_below_drewN | apply below_drew1 | refine below_set ?_ GE176.out | refine below_set ?_ GE177.out) | exact HB.out)) hb); clear BK176; clear BK177; clear HB; have BK176 := n0_; have BK177 := n1_; have HB := n2_; clear n0_ n1_ n2_; (try clear hb); (try clear hb2); (try clear hk); (try clear hi)))
        go_ret
        exact ⟨by first | rfl | (simp [errW_none, errW_some] <;> rfl) | (simp [*, errW_none, errW_some] <;> rfl), by repeat (first | (with_reducible first | exact HB.out | apply below_alloc | apply pw_below_drewN | apply below_drew1 | refine below_set ?_ GE176.out | refine below_set ?_ GE177.out) | exact HB.out)⟩
      ·replace c49 := Bool.eq_false_iff.mpr c49
       subst c49
       have H1 : (some false) = some r := by rw [if_neg (show ¬ (false = true) by decide)] at H; exact H
       clear H
       have H := H1
       clear H1
       obtain rfl := Option.some.inj H
       go_wp2
       go_ret
       exact ⟨by first | rfl | (simp [errW_none, errW_some] <;> rfl) | (simp [*, errW_none, errW_some] <;> rfl), by repeat (first | (with_reducible first | exact HB.out | apply below_alloc | apply pw_below_drewN | apply below_drew1 | refine below_set ?_ GE176.out | refine below_set ?_ GE177.out) | exact HB.out)⟩
     ·replace c48 := Bool.eq_false_iff.mpr c48
      subst c48
      have H1 : (some false) = some r := by rw [if_neg (show ¬ (false = true) by decide)] at H; exact H
      clear H
      have H := H1
      clear H1
      obtain rfl := Option.some.inj H
      go_wp2
      go_ret
      exact ⟨by first | rfl | (simp [errW_none, errW_some] <;> rfl) | (simp [*, errW_none, errW_some] <;> rfl), by repeat (first | (with_reducible first | exact HB.out | apply below_alloc | apply pw_below_drewN | apply below_drew1 | refine below_set ?_ GE176.out | refine below_set ?_ GE177.out) | exact HB.out)⟩

end Go.Proofs.Ytagipnepckgdfaa.PFnExactSameShown
