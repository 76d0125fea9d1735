-- Written for this claim by a program of this session's (wip/p2.sh).
import Derived.Test.YtagipnepckgdfaaPFnExactNewScreenx0
import Derived.Test.YtagipnepckgdfaaPFnExactNewScreenx1
namespace Go.Proofs.Ytagipnepckgdfaa.PFnExactNewScreen
open Go.RowKit Go.Proofs.YtagipnepckgdfaaW.PrintWords Go.Proofs.YtagipnepckgdfaaW.PrintLast Go.Proofs.YtagipnepckgdfaaW.PrintMore
attribute [local go_sem] max2_int min2_int max_two min_two max_three min_three max_four min_four   -- for this text's walks alone
set_option linter.unusedVariables false
set_option linter.unusedSimpArgs false

/-! ### impl_newScreen: function 92 -/
def impl_newScreen.l0 : Nat → Int → Int → Int → Int → List (S107) → List (S107) → Int → Int → Bool → Int → Int → Int → Bool → Bool → Bool → List Bool → Int → Int → Int → List Int → Int → Int → Option (Int × Int × (List (S107)) × (List (S107)) × Int × Int × Bool × Int × Int × Int × Bool × Bool × Bool × List Bool × Int × Int × Int × List Int × Int × Int)
  | 0, _, _, _, _, _, _, _, _, _, _, _, _, _, _, _, _, _, _, _, _, _, _ => none
  | k + 1, x14, x15, x227000, x227001, x227002, x227003, x227004, x227005, x227006, x227007, x227008, x227009, x227010, x227011, x227012, x227013, x227014, x227015, x227016, x227017, x227018, x227019 => if x15 < x14 then ((impl_isTab.f x15).bind fun t227 => (if x227013.length < 140737488355328 then (impl_newScreen.l0 k x14 (wrap64 (x15 + 1)) x227000 x227001 x227002 x227003 x227004 x227005 x227006 x227007 x227008 x227009 x227010 x227011 x227012 (x227013 ++ [t227]) x227014 x227015 x227016 x227017 x227018 x227019) else (none))) else (some (x227000, x227001, x227002, x227003, x227004, x227005, x227006, x227007, x227008, x227009, x227010, x227011, x227012, x227013, x227014, x227015, x227016, x227017, x227018, x227019))
def impl_newScreen.f (k : Nat) (a0 : Int) (a1 : Int) : Option (Int × Int × (List (S107)) × (List (S107)) × Int × Int × Bool × Int × Int × Int × Bool × Bool × Bool × List Bool × Int × Int × Int × List Int × Int × Int) := (impl_newGrid.f a0 a1).bind fun bt215 => (impl_newScreen.l0 k a1 0 bt215.1 bt215.2.1 bt215.2.2.1 bt215.2.2.2 0 0 false 0 0 (wrap64 (a0 - 1)) false true false ([] : List Bool) 0 0 0 (([1, 1] : List Int)) 0 0)
theorem impl_newScreen.mono_l : ∀ k, (∀ y0 y1 y2 y3 y4 y5 y6 y7 y8 y9 y10 y11 y12 y13 y14 y15 y16 y17 y18 y19 y20 y21, LeO (impl_newScreen.l0 k y0 y1 y2 y3 y4 y5 y6 y7 y8 y9 y10 y11 y12 y13 y14 y15 y16 y17 y18 y19 y20 y21) (impl_newScreen.l0 (k + 1) y0 y1 y2 y3 y4 y5 y6 y7 y8 y9 y10 y11 y12 y13 y14 y15 y16 y17 y18 y19 y20 y21))
  | 0 => fun _ _ _ _ _ _ _ _ _ _ _ _ _ _ _ _ _ _ _ _ _ _ r h => by simp [impl_newScreen.l0] at h
  | k + 1 => by
    have ih0 := impl_newScreen.mono_l k
    · intro y0 y1 y2 y3 y4 y5 y6 y7 y8 y9 y10 y11 y12 y13 y14 y15 y16 y17 y18 y19 y20 y21
      unfold impl_newScreen.l0
      repeat' first
      | (with_reducible exact ih0 _ _ _ _ _ _ _ _ _ _ _ _ _ _ _ _ _ _ _ _ _ _)
      | (with_reducible exact LeO.refl _)
      | (with_reducible exact LeO.none _)
      | (with_reducible refine LeO.ite ?_ ?_)
      | (with_reducible refine LeO.bind ?_ (fun _ => ?_))
      | exact ih0 _ _ _ _ _ _ _ _ _ _ _ _ _ _ _ _ _ _ _ _ _ _
      | exact LeO.none _
      | refine LeO.ite ?_ ?_
      | refine LeO.bind ?_ (fun _ => ?_)
theorem impl_newScreen.mono : ∀ a0 a1 k, LeO (impl_newScreen.f k a0 a1) (impl_newScreen.f (k + 1) a0 a1) := by
  intro a0 a1 k
  have ih0 := impl_newScreen.mono_l k
  unfold impl_newScreen.f
  repeat' first
      | (with_reducible exact ih0 _ _ _ _ _ _ _ _ _ _ _ _ _ _ _ _ _ _ _ _ _ _)
      | (with_reducible exact LeO.refl _)
      | (with_reducible exact LeO.none _)
      | (with_reducible refine LeO.ite ?_ ?_)
      | (with_reducible refine LeO.bind ?_ (fun _ => ?_))
      | exact ih0 _ _ _ _ _ _ _ _ _ _ _ _ _ _ _ _ _ _ _ _ _ _
      | exact LeO.none _
      | refine LeO.ite ?_ ?_
      | refine LeO.bind ?_ (fun _ => ?_)
def impl_newScreen.T5 : Bool × List (List Nat × List Nat) := (true, [([], []), ([0], [0]), ([], []), ([2], [2]), ([3], [3]), ([1, 4, 3], [1, 4]), ([0, 1, 2, 3, 4, 5], []), ([6, 5, 5, 0, 1, 2, 3, 4, 5], [5, 6])])
def impl_newScreen.B5 : List Nat := [0, 1, 0, 4, 12, 31, 63, 127]
theorem impl_newScreen.tab5 : rtab .any (opsOf Try.f92 5) = impl_newScreen.T5 := by kernel_rfl
theorem impl_newScreen.bits5 : waitsOk impl_newScreen.T5.2 impl_newScreen.B5 = true := by kernel_rfl
set_option maxHeartbeats 8000000 in
set_option maxRecDepth 100000 in
theorem impl_newScreen.calls (k : Nat) (a0 : Int) (a1 : Int) (r1 : Int) (r2 : Int) (r3 : List (S107)) (r4 : List (S107)) (r5 : Int) (r6 : Int) (r7 : Bool) (r8 : Int) (r9 : Int) (r10 : Int) (r11 : Bool) (r12 : Bool) (r13 : Bool) (r14 : List Bool) (r15 : Int) (r16 : Int) (r17 : Int) (r18 : List Int) (r19 : Int) (r20 : Int) (w : World) (h : impl_newScreen.f k a0 a1 = some (r1, r2, r3, r4, r5, r6, r7, r8, r9, r10, r11, r12, r13, r14, r15, r16, r17, r18, r19, r20)) :
    Calls Try.prog 92 #[.int .i64 a0, .int .i64 a1] w fun e w' => ∃ v2_ v3_ v13_ v17_ : Value, e = .returned (.agg #[.int .i64 r1, .int .i64 r2, v2_, v3_, .int .i64 r5, .int .i64 r6, .bool r7, .int .i64 r8, .int .i64 r9, .int .i64 r10, .bool r11, .bool r12, .bool r13, v13_, .int .i64 r15, .int .i64 r16, .int .i64 r17, v17_, .int .i64 r19, .int .i64 r20]) ∧ Kd.R k107 107 w' w.heap.size (fun k_ => some k_ ≠ (v3_ : Value).ownBlock) v2_ r3 ∧ Kd.R k107 107 w' w.heap.size (fun k_ => some k_ ≠ (v2_ : Value).ownBlock) v3_ r4 ∧ Kd.R Kd.bool 4 w' w.heap.size (fun _ => True) v13_ r14 ∧ Kd.R (Kd.int .i64) 2 w' w.heap.size (fun _ => True) v17_ r18 ∧ Below w.heap.size w w' := by
  have hu64 := Try.underlying64
  have HB := Aside0.mk (Below.refl w.heap.size w)
  have H : ((impl_newGrid.f a0 a1).bind fun bt215 => (impl_newScreen.l0 k a1 0 bt215.1 bt215.2.1 bt215.2.2.1 bt215.2.2.2 0 0 false 0 0 (wrap64 (a0 - 1)) false true false ([] : List Bool) 0 0 0 (([1, 1] : List Int)) 0 0)) = some (r1, r2, r3, r4, r5, r6, r7, r8, r9, r10, r11, r12, r13, r14, r15, r16, r17, r18, r19, r20) := h
  clear h
  replace H := Option.bind_eq_some_iff.mp H
  obtain ⟨⟨t215, t216, t217, t220⟩, A30, H⟩ := H
  replace H : (impl_newScreen.l0 k a1 0 t215 t216 t217 t220 0 0 false 0 0 (wrap64 (a0 - 1)) false true false ([] : List Bool) 0 0 0 (([1, 1] : List Int)) 0 0) = some (r1, r2, r3, r4, r5, r6, r7, r8, r9, r10, r11, r12, r13, r14, r15, r16, r17, r18, r19, r20) := H
  have A3 := Aside0.mk A30
  clear A30
  obtain ⟨y223, hy223⟩ : ∃ y_ : List Int, y_ = (([1, 1] : List Int)) := ⟨_, rfl⟩
  replace H : (impl_newScreen.l0 k a1 0 t215 t216 t217 t220 0 0 false 0 0 (wrap64 (a0 - 1)) false true false ([] : List Bool) 0 0 0 y223 0 0) = some (r1, r2, r3, r4, r5, r6, r7, r8, r9, r10, r11, r12, r13, r14, r15, r16, r17, r18, r19, r20) := by first | (rw [hy223]; with_reducible exact H) | (have H2_ := (Option.bind_some _ _).symm.trans H; rw [hy223]; with_reducible exact H2_) | (have H2_ := (Option.bind_some _ _).symm.trans H; with_reducible exact H2_) | with_reducible exact H | (rw [hy223]; exact H) | exact H
  have Ny223 := Aside0.mk hy223
  clear hy223
  have H' := Aside0.mk H
  clear H
  go_enter Try.func92, Try.ntmps92
  go_wp2_with (first | ((with_reducible refine Go.Proofs.YtagipnepckgdfaaCells.gate_load (t := 64) (p := 5) rfl ?_); refine Go.Proofs.YtagipnepckgdfaaCells.load_whole (ty := 64) (p := 5) (g := gb226) (t := 64) ?hg ?ho ?hx (by (with_reducible repeat (first | refine blk_drewN ?_ _ | refine blk_drew ?_ | refine blk_alloc ?_ _)); exact BK226.out) Try.underlying64 rfl ?hi ?_; (case ho => rfl); (case hg => rfl); (case hx => rfl); (case hi => kernel_rfl)) | ((with_reducible refine gate_dst (N := 4) rfl ?_); refine box_event ?hg (N := 4) ?hd (cs := #[.int .i64 0, .int .i64 0, .slice none 0 0, .slice none 0 0, .int .i64 0, .int .i64 0, .bool false, .int .i64 0, .int .i64 0, .int .i64 0, .bool false, .bool false, .bool false, .slice none 0 0, .int .i64 0, .int .i64 0, .int .i64 0, .slice none 0 0, .int .i64 0, .int .i64 0]) (t := 64) ?hr ?_; (case hd => rfl); (case hg => rfl); (case hr => first | (go_simp; done) | (go_simp; rfl)); intro gb214 hg w4 hbox hb; have n0_ := Aside0.mk (below_step (by repeat (first | (with_reducible first | exact HB.out | apply below_alloc | apply pw_below_drewN | apply below_drew1) | exact HB.out)) hb); have n1_ := Aside0.mk (hbox); have n2_ := Aside0.mk ((by rw [hg]; exact (below_size (by repeat (first | (with_reducible first | exact HB.out | apply below_alloc | apply pw_below_drewN | apply below_drew1) | exact HB.out))) : w.heap.size ≤ gb214)); have n3_ := Aside0.mk ((by rw [hg]; exact (below_size (by repeat (first | (with_reducible first | exact HB.out | apply below_alloc | apply pw_below_drewN | apply below_drew1) | exact HB.out))) : w.heap.size ≤ gb214)); clear HB; have HB := n0_; have BK214 := n1_; have GW214 := n2_; have GE214 := n3_; clear n0_ n1_ n2_ n3_; clear hb hbox hg) | ((with_reducible refine gate_callee (f := 82) rfl ?_); refine goesL_ (some 9) rfl rfl Try.func82 (by kernel_rfl) rfl #[.int .i64 a0, .int .i64 a1] rfl (by (try simp only [List.map_toArray, List.map_cons, List.map_nil]); first | done | rfl | (simp only [List.length_drop, List.length_take]; rfl)) ?_; (with_reducible refine (impl_newGrid.calls a0 a1 t215 t216 t217 t220 _ A3.out).mono ?_); rintro e w5 ⟨v218, v221, rfl, ho0, ho1, hb⟩; refine ⟨_, rfl, ?_⟩; have n0_ := Aside0.mk (Kd.R_lower ho0 (below_size (by repeat (first | (with_reducible first | exact HB.out | apply below_alloc | apply pw_below_drewN | apply below_drew1 | refine below_set ?_ GE214.out) | exact HB.out)))); have n1_ := Aside0.mk (Kd.R_lower ho1 (below_size (by repeat (first | (with_reducible first | exact HB.out | apply below_alloc | apply pw_below_drewN | apply below_drew1 | refine below_set ?_ GE214.out) | exact HB.out)))); have n2_ := Aside0.mk (blk_below (g := gb214) (o := .cells #[.int .i64 0, .int .i64 0, .slice none 0 0, .slice none 0 0, .int .i64 0, .int .i64 0, .bool false, .int .i64 0, .int .i64 0, .int .i64 0, .bool false, .bool false, .bool false, .slice none 0 0, .int .i64 0, .int .i64 0, .int .i64 0, .slice none 0 0, .int .i64 0, .int .i64 0] 64 (0, 0)) (by (with_reducible repeat (first | refine blk_drewN ?_ _ | refine blk_drew ?_ | refine blk_alloc ?_ _)); exact BK214.out) hb); have n3_ := Aside0.mk (below_step (by repeat (first | (with_reducible first | exact HB.out | apply below_alloc | apply pw_below_drewN | apply below_drew1 | refine below_set ?_ GE214.out) | exact HB.out)) hb); clear BK214; clear HB; have HO219 := n0_; have HO222 := n1_; have BK214 := n2_; have HB := n3_; clear n0_ n1_ n2_ n3_; (try clear hb); (try clear hb2); (try clear hk); (try clear hi); (try clear ho0); (try clear ho1)) | ((with_reducible refine gate_dst (N := 12) rfl ?_); refine Kd.R_lit (Kd.int .i64) _ 2 ?hg (N := 12) ?hd (xs := ([1, 1] : List Int)) (inner := [.int .i64 1, .int .i64 1]) (ok := fun _ => True) (okp := fun _ => True) ?hr ?hp (fun _ hk => hk) trivial (Below.refl _ _) (Nat.le_refl _) (by simp) ?_; (case hd => rfl); (case hg => rfl); (case hr => first | (go_simp; done) | (go_simp; rfl)); (case hp => exact (Reps.one (show Kd.M (Kd.int .i64) _ _ _ 1 [.int .i64 1] from rfl) (Reps.one (show Kd.M (Kd.int .i64) _ _ _ 1 [.int .i64 1] from rfl) (Reps.none _ _)))); intro v224 w6 ho7 hb hg_ hnew_; clear hg_ hnew_; (first | rw [← Ny223.out] at ho7 | (simp only [Int.reduceToNat] at ho7; rw [← Ny223.out] at ho7)); have n0_ := Aside0.mk (Kd.R_below (by (with_reducible repeat (first | apply Kd.R_alloc | apply Kd.R_drewN | apply Kd.R_drew)); exact HO219.out) hb); have n1_ := Aside0.mk (Kd.R_below (by (with_reducible repeat (first | apply Kd.R_alloc | apply Kd.R_drewN | apply Kd.R_drew)); exact HO222.out) hb); have n2_ := Aside0.mk (Kd.R_lower ho7 (below_size (by repeat (first | (with_reducible first | exact HB.out | apply below_alloc | apply pw_below_drewN | apply below_drew1 | refine below_set ?_ GE214.out) | exact HB.out)))); have n3_ := Aside0.mk (blk_below (g := gb214) (o := .cells #[.int .i64 0, .int .i64 0, .slice none 0 0, .slice none 0 0, .int .i64 0, .int .i64 0, .bool false, .int .i64 0, .int .i64 0, .int .i64 0, .bool false, .bool false, .bool false, .slice none 0 0, .int .i64 0, .int .i64 0, .int .i64 0, .slice none 0 0, .int .i64 0, .int .i64 0] 64 (0, 0)) (by (with_reducible repeat (first | refine blk_drewN ?_ _ | refine blk_drew ?_ | refine blk_alloc ?_ _)); exact BK214.out) hb); have n4_ := Aside0.mk (below_step (by repeat (first | (with_reducible first | exact HB.out | apply below_alloc | apply pw_below_drewN | apply below_drew1 | refine below_set ?_ GE214.out) | exact HB.out)) hb); clear HO219; clear HO222; clear BK214; clear HB; have HO219 := n0_; have HO222 := n1_; have HO225 := n2_; have BK214 := n3_; have HB := n4_; clear n0_ n1_ n2_ n3_ n4_; clear hb ho7; obtain ⟨Ao8, co8, eo8⟩ := Kd.R_slice HO225.out; subst eo8; obtain ⟨Ao9, co9, eo9⟩ := Kd.R_slice HO222.out; subst eo9; obtain ⟨Ao10, co10, eo10⟩ := Kd.R_slice HO219.out; subst eo10) | ((with_reducible refine gate_dst (N := 5) rfl ?_); refine box_event ?hg (N := 5) ?hd (cs := #[.int .i64 0, .int .i64 0, .slice none 0 0, .slice none 0 0, .int .i64 0, .int .i64 0, .bool false, .int .i64 0, .int .i64 0, .int .i64 0, .bool false, .bool false, .bool false, .slice none 0 0, .int .i64 0, .int .i64 0, .int .i64 0, .slice none 0 0, .int .i64 0, .int .i64 0]) (t := 64) ?hr ?_; (case hd => rfl); (case hg => rfl); (case hr => first | (go_simp; done) | (go_simp; rfl)); intro gb226 hg w11 hbox hb; have n0_ := Aside0.mk (Kd.R_below (by (with_reducible repeat (first | apply Kd.R_alloc | apply Kd.R_drewN | apply Kd.R_drew)); exact HO219.out) hb); have n1_ := Aside0.mk (Kd.R_below (by (with_reducible repeat (first | apply Kd.R_alloc | apply Kd.R_drewN | apply Kd.R_drew)); exact HO222.out) hb); have n2_ := Aside0.mk (Kd.R_below (by (with_reducible repeat (first | apply Kd.R_alloc | apply Kd.R_drewN | apply Kd.R_drew)); exact HO225.out) hb); have n3_ := Aside0.mk (blk_below (g := gb214) (o := .cells #[.int .i64 0, .int .i64 0, .slice none 0 0, .slice none 0 0, .int .i64 0, .int .i64 0, .bool false, .int .i64 0, .int .i64 0, .int .i64 0, .bool false, .bool false, .bool false, .slice none 0 0, .int .i64 0, .int .i64 0, .int .i64 0, .slice none 0 0, .int .i64 0, .int .i64 0] 64 (0, 0)) (by (with_reducible repeat (first | refine blk_drewN ?_ _ | refine blk_drew ?_ | refine blk_alloc ?_ _)); exact BK214.out) hb); have n4_ := Aside0.mk (below_step (by repeat (first | (with_reducible first | exact HB.out | apply below_alloc | apply pw_below_drewN | apply below_drew1 | refine below_set ?_ GE214.out) | exact HB.out)) hb); have n5_ := Aside0.mk (hbox); have n6_ := Aside0.mk ((by rw [hg]; exact (below_size (by repeat (first | (with_reducible first | exact HB.out | apply below_alloc | apply pw_below_drewN | apply below_drew1 | refine below_set ?_ GE214.out) | exact HB.out))) : w.heap.size ≤ gb226)); have n7_ := Aside0.mk ((by rw [hg]; exact (below_size (by repeat (first | (with_reducible first | exact HB.out | apply below_alloc | apply pw_below_drewN | apply below_drew1 | refine below_set ?_ GE214.out) | exact HB.out))) : w.heap.size ≤ gb226)); have n8_ := Aside0.mk ((by rw [hg]; exact Nat.ne_of_lt (blk_lt (g := gb214) (o := .cells #[.int .i64 0, .int .i64 0, .slice none 0 0, .slice none 0 0, .int .i64 0, .int .i64 0, .bool false, .int .i64 0, .int .i64 0, .int .i64 0, .bool false, .bool false, .bool false, .slice none 0 0, .int .i64 0, .int .i64 0, .int .i64 0, .slice none 0 0, .int .i64 0, .int .i64 0] 64 (0, 0)) (by (with_reducible repeat (first | refine blk_drewN ?_ _ | refine blk_drew ?_ | refine blk_alloc ?_ _)); exact BK214.out)) : gb214 ≠ gb226)); have n9_ := Aside0.mk ((by rw [hg]; exact Nat.ne_of_gt (blk_lt (g := gb214) (o := .cells #[.int .i64 0, .int .i64 0, .slice none 0 0, .slice none 0 0, .int .i64 0, .int .i64 0, .bool false, .int .i64 0, .int .i64 0, .int .i64 0, .bool false, .bool false, .bool false, .slice none 0 0, .int .i64 0, .int .i64 0, .int .i64 0, .slice none 0 0, .int .i64 0, .int .i64 0] 64 (0, 0)) (by (with_reducible repeat (first | refine blk_drewN ?_ _ | refine blk_drew ?_ | refine blk_alloc ?_ _)); exact BK214.out)) : gb226 ≠ gb214)); clear HO219; clear HO222; clear HO225; clear BK214; clear HB; have HO219 := n0_; have HO222 := n1_; have HO225 := n2_; have BK214 := n3_; have HB := n4_; have BK226 := n5_; have GW226 := n6_; have GE226 := n7_; have NB214_226 := n8_; have NB226_214 := n9_; clear n0_ n1_ n2_ n3_ n4_ n5_ n6_ n7_ n8_ n9_; clear hb hbox hg; have hnb12 := NB226_214.out; have hnc12 := NB214_226.out; have hcz13_0 : w11.cell? ⟨gb226, 0, none⟩ = some (.int .i64 0) := (blk_cell BK226.out 0).trans rfl; have hcz13_1 : w11.cell? ⟨gb226, 1, none⟩ = some (.int .i64 0) := (blk_cell BK226.out 1).trans rfl; have hcz13_2 : w11.cell? ⟨gb226, 2, none⟩ = some (.slice none 0 0) := (blk_cell BK226.out 2).trans rfl; have hcz13_3 : w11.cell? ⟨gb226, 3, none⟩ = some (.slice none 0 0) := (blk_cell BK226.out 3).trans rfl; have hcz13_4 : w11.cell? ⟨gb226, 4, none⟩ = some (.int .i64 0) := (blk_cell BK226.out 4).trans rfl; have hcz13_5 : w11.cell? ⟨gb226, 5, none⟩ = some (.int .i64 0) := (blk_cell BK226.out 5).trans rfl; have hcz13_6 : w11.cell? ⟨gb226, 6, none⟩ = some (.bool false) := (blk_cell BK226.out 6).trans rfl; have hcz13_7 : w11.cell? ⟨gb226, 7, none⟩ = some (.int .i64 0) := (blk_cell BK226.out 7).trans rfl; have hcz13_8 : w11.cell? ⟨gb226, 8, none⟩ = some (.int .i64 0) := (blk_cell BK226.out 8).trans rfl; have hcz13_9 : w11.cell? ⟨gb226, 9, none⟩ = some (.int .i64 0) := (blk_cell BK226.out 9).trans rfl; have hcz13_10 : w11.cell? ⟨gb226, 10, none⟩ = some (.bool false) := (blk_cell BK226.out 10).trans rfl; have hcz13_11 : w11.cell? ⟨gb226, 11, none⟩ = some (.bool false) := (blk_cell BK226.out 11).trans rfl; have hcz13_12 : w11.cell? ⟨gb226, 12, none⟩ = some (.bool false) := (blk_cell BK226.out 12).trans rfl; have hcz13_13 : w11.cell? ⟨gb226, 13, none⟩ = some (.slice none 0 0) := (blk_cell BK226.out 13).trans rfl; have hcz13_14 : w11.cell? ⟨gb226, 14, none⟩ = some (.int .i64 0) := (blk_cell BK226.out 14).trans rfl; have hcz13_15 : w11.cell? ⟨gb226, 15, none⟩ = some (.int .i64 0) := (blk_cell BK226.out 15).trans rfl; have hcz13_16 : w11.cell? ⟨gb226, 16, none⟩ = some (.int .i64 0) := (blk_cell BK226.out 16).trans rfl; have hcz13_17 : w11.cell? ⟨gb226, 17, none⟩ = some (.slice none 0 0) := (blk_cell BK226.out 17).trans rfl; have hcz13_18 : w11.cell? ⟨gb226, 18, none⟩ = some (.int .i64 0) := (blk_cell BK226.out 18).trans rfl; have hcz13_19 : w11.cell? ⟨gb226, 19, none⟩ = some (.int .i64 0) := (blk_cell BK226.out 19).trans rfl; have hfz13_0 := blk_frozen BK226.out 0; have hfz13_1 := blk_frozen BK226.out 1; have hfz13_2 := blk_frozen BK226.out 2; have hfz13_3 := blk_frozen BK226.out 3; have hfz13_4 := blk_frozen BK226.out 4; have hfz13_5 := blk_frozen BK226.out 5; have hfz13_6 := blk_frozen BK226.out 6; have hfz13_7 := blk_frozen BK226.out 7; have hfz13_8 := blk_frozen BK226.out 8; have hfz13_9 := blk_frozen BK226.out 9; have hfz13_10 := blk_frozen BK226.out 10; have hfz13_11 := blk_frozen BK226.out 11; have hfz13_12 := blk_frozen BK226.out 12; have hfz13_13 := blk_frozen BK226.out 13; have hfz13_14 := blk_frozen BK226.out 14; have hfz13_15 := blk_frozen BK226.out 15; have hfz13_16 := blk_frozen BK226.out 16; have hfz13_17 := blk_frozen BK226.out 17; have hfz13_18 := blk_frozen BK226.out 18; have hfz13_19 := blk_frozen BK226.out 19) | ((with_reducible refine gate_store (t := 64) (p := 5) rfl ?_); refine Go.Proofs.YtagipnepckgdfaaCells.store_whole (ty := 64) (x := .tmp 5) (y := ?vo_w14) (g := gb226) (cells := [.int .i64 t215, .int .i64 t216, .slice Ao10 t217.length co10, .slice Ao9 t220.length co9, .int .i64 0, .int .i64 0, .bool false, .int .i64 0, .int .i64 0, .int .i64 (wrap64 (a0 - 1)), .bool false, .bool true, .bool false, .slice none 0 0, .int .i64 0, .int .i64 0, .int .i64 0, .slice Ao8 y223.length co8, .int .i64 0, .int .i64 0]) (t := 64) (old := [.int .i64 0, .int .i64 0, .slice none 0 0, .slice none 0 0, .int .i64 0, .int .i64 0, .bool false, .int .i64 0, .int .i64 0, .int .i64 0, .bool false, .bool false, .bool false, .slice none 0 0, .int .i64 0, .int .i64 0, .int .i64 0, .slice none 0 0, .int .i64 0, .int .i64 0]) ?hg ?ho ?hx ?hy ?hn ?hb ?hi rfl rfl ?_; (case ho => rfl); (case hg => rfl); (case hn => rfl); (case hx => rfl); (case hy => first | rfl | (go_simp; done) | (simp [*]; done)); (case hb => exact (by (with_reducible repeat (first | refine blk_drewN ?_ _ | refine blk_drew ?_ | refine blk_alloc ?_ _)); exact BK226.out)); (case hi => kernel_rfl); intro w14 hob_ hbk hfar hbel; have n0_ : Aside0 (Kd.R k107 107 w14 w.heap.size (fun k_ => some k_ ≠ (.slice Ao9 t220.length co9 : Value).ownBlock) (.slice Ao10 t217.length co10) t217) := ⟨Go.Proofs.YtagipnepckgdfaaCells.R_whole (by (with_reducible repeat (first | apply Kd.R_alloc | apply Kd.R_drewN | apply Kd.R_drew)); exact HO219.out) hob_ (by decide) hfar⟩; have n1_ : Aside0 (Kd.R k107 107 w14 w.heap.size (fun k_ => some k_ ≠ (.slice Ao10 t217.length co10 : Value).ownBlock) (.slice Ao9 t220.length co9) t220) := ⟨Go.Proofs.YtagipnepckgdfaaCells.R_whole (by (with_reducible repeat (first | apply Kd.R_alloc | apply Kd.R_drewN | apply Kd.R_drew)); exact HO222.out) hob_ (by decide) hfar⟩; have n2_ : Aside0 (Kd.R (Kd.int .i64) 2 w14 w.heap.size (fun _ => True) (.slice Ao8 y223.length co8) y223) := ⟨Go.Proofs.YtagipnepckgdfaaCells.R_whole (by (with_reducible repeat (first | apply Kd.R_alloc | apply Kd.R_drewN | apply Kd.R_drew)); exact HO225.out) hob_ (by decide) hfar⟩; have n3_ : Aside0 (w14.heap[gb214]? = some (.cells #[.int .i64 0, .int .i64 0, .slice none 0 0, .slice none 0 0, .int .i64 0, .int .i64 0, .bool false, .int .i64 0, .int .i64 0, .int .i64 0, .bool false, .bool false, .bool false, .slice none 0 0, .int .i64 0, .int .i64 0, .int .i64 0, .slice none 0 0, .int .i64 0, .int .i64 0] 64 (0, 0))) := ⟨(hfar _ NB214_226.out).trans (by (with_reducible repeat (first | refine blk_drewN ?_ _ | refine blk_drew ?_ | refine blk_alloc ?_ _)); exact BK214.out)⟩; have n4_ : Aside0 (w14.heap[gb226]? = some (.cells #[.int .i64 t215, .int .i64 t216, .slice Ao10 t217.length co10, .slice Ao9 t220.length co9, .int .i64 0, .int .i64 0, .bool false, .int .i64 0, .int .i64 0, .int .i64 (wrap64 (a0 - 1)), .bool false, .bool true, .bool false, .slice none 0 0, .int .i64 0, .int .i64 0, .int .i64 0, .slice Ao8 y223.length co8, .int .i64 0, .int .i64 0] 64 (0, 0))) := ⟨hbk⟩; have n5_ : Aside0 (Below w.heap.size w w14) := ⟨hbel _ _ GE226.out (by repeat (first | (with_reducible first | exact HB.out | apply below_alloc | apply pw_below_drewN | apply below_drew1 | refine below_set ?_ GE214.out | refine below_set ?_ GE226.out) | exact HB.out))⟩; clear hob_ hbk hfar hbel; clear HO219; clear HO222; clear HO225; clear BK214; clear BK226; clear HB; have HO219 := n0_; have HO222 := n1_; have HO225 := n2_; have BK214 := n3_; have BK226 := n4_; have HB := n5_; clear n0_ n1_ n2_ n3_ n4_ n5_))
  go_loopg [15] k (fun kq v15 w' => ∃ (x15_1 : Int) (x227013_1 : List Bool) (u227013 : Value), v15 = .int .i64 x15_1 ∧ Aside0 (impl_newScreen.l0 kq a1 x15_1 t215 t216 t217 t220 0 0 false 0 0 (wrap64 (a0 - 1)) false true false x227013_1 0 0 0 y223 0 0 = some (r1, r2, r3, r4, r5, r6, r7, r8, r9, r10, r11, r12, r13, r14, r15, r16, r17, r18, r19, r20)) ∧ Aside0 (kq ≤ k) ∧ Aside0 (Kd.R k107 107 w' w.heap.size (fun k_ => some k_ ≠ ((.slice Ao9 t220.length co9) : Value).ownBlock) (.slice Ao10 t217.length co10) t217) ∧ Aside0 (Kd.R k107 107 w' w.heap.size (fun k_ => some k_ ≠ ((.slice Ao10 t217.length co10) : Value).ownBlock) (.slice Ao9 t220.length co9) t220) ∧ Aside0 (Kd.R Kd.bool 4 w' w.heap.size (fun _ => True) u227013 x227013_1) ∧ Aside0 (Kd.R (Kd.int .i64) 2 w' w.heap.size (fun _ => True) (.slice Ao8 y223.length co8) y223) ∧ Aside0 (w'.heap[gb214]? = some (.cells #[.int .i64 0, .int .i64 0, (.slice none 0 0), (.slice none 0 0), .int .i64 0, .int .i64 0, .bool false, .int .i64 0, .int .i64 0, .int .i64 0, .bool false, .bool false, .bool false, (.slice none 0 0), .int .i64 0, .int .i64 0, .int .i64 0, (.slice none 0 0), .int .i64 0, .int .i64 0] 64 (0, 0))) ∧ Aside0 (w'.heap[gb226]? = some (.cells #[.int .i64 t215, .int .i64 t216, (.slice Ao10 t217.length co10), (.slice Ao9 t220.length co9), .int .i64 0, .int .i64 0, .bool false, .int .i64 0, .int .i64 0, .int .i64 (wrap64 (a0 - 1)), .bool false, .bool true, .bool false, u227013, .int .i64 0, .int .i64 0, .int .i64 0, (.slice Ao8 y223.length co8), .int .i64 0, .int .i64 0] 64 (0, 0))) ∧ Aside0 (Below w.heap.size w w'))
  case atStart => exact ⟨(0), (([] : List Bool)), (.slice none 0 0), (by first | rfl | (simp; done) | (simp [*]; done)), H', ⟨Nat.le_refl _⟩, ⟨by (with_reducible repeat (first | apply Kd.R_alloc | apply Kd.R_drewN | apply Kd.R_drew)); exact HO219.out⟩, ⟨by (with_reducible repeat (first | apply Kd.R_alloc | apply Kd.R_drewN | apply Kd.R_drew)); exact HO222.out⟩, ⟨by first | exact Kd.R_nil _ _ _ _ _ | exact Kd.N_nil _ _ _ _ _ | exact Kd.V_nil _ _ _ _ _ | exact Kd.Q_nil _ _ _ _ _ | exact Kd.S_nil _ _ _ _ _⟩, ⟨by (with_reducible repeat (first | apply Kd.R_alloc | apply Kd.R_drewN | apply Kd.R_drew)); exact HO225.out⟩, ⟨by (with_reducible repeat (first | refine blk_drewN ?_ _ | refine blk_drew ?_ | refine blk_alloc ?_ _)); exact BK214.out⟩, ⟨by (with_reducible repeat (first | refine blk_drewN ?_ _ | refine blk_drew ?_ | refine blk_alloc ?_ _)); exact BK226.out⟩, ⟨by repeat (first | (with_reducible first | exact HB.out | apply below_alloc | apply pw_below_drewN | apply below_drew1 | refine below_set ?_ GE214.out | refine below_set ?_ GE226.out) | exact HB.out)⟩⟩
  case round =>
    clear H'
    try clear c1
    try clear p2
    try clear p6
    try clear c8
    try clear c9
    try clear c12
    try clear hcz13_0
    try clear hcz13_1
    try clear hcz13_10
    try clear hcz13_11
    try clear hcz13_12
    try clear hcz13_13
    try clear hcz13_14
    try clear hcz13_15
    try clear hcz13_16
    try clear hcz13_17
    try clear hcz13_18
    try clear hcz13_19
    try clear hcz13_2
    try clear hcz13_3
    try clear hcz13_4
    try clear hcz13_5
    try clear hcz13_6
    try clear hcz13_7
    try clear hcz13_8
    try clear hcz13_9
    try clear hfz13_0
    try clear hfz13_1
    try clear hfz13_10
    try clear hfz13_11
    try clear hfz13_12
    try clear hfz13_13
    try clear hfz13_14
    try clear hfz13_15
    try clear hfz13_16
    try clear hfz13_17
    try clear hfz13_18
    try clear hfz13_19
    try clear hfz13_2
    try clear hfz13_3
    try clear hfz13_4
    try clear hfz13_5
    try clear hfz13_6
    try clear hfz13_7
    try clear hfz13_8
    try clear hfz13_9
    obtain ⟨x15_1, x227013_1, u227013, rfl, HA, HK1, HO_227002, HO_227003, HO_227013, HO_227017, BK214, BK226, HB⟩ := hrel
    cases gk with
    | zero => exact absurd HA.out (by simp [impl_newScreen.l0])
    | succ k1 =>
      have H := HA.out
      clear HA
      simp only [impl_newScreen.l0] at H
      by_cases c15 : x15_1 < a1
      · rw [if_pos c15] at H
        have c15b0 : decide (x15_1 < a1) = true := decide_eq_true c15
        clear c15
        replace H := Option.bind_eq_some_iff.mp H
        obtain ⟨t227, A160, H⟩ := H
        replace H : (if x227013_1.length < 140737488355328 then (impl_newScreen.l0 k1 a1 (wrap64 (x15_1 + 1)) t215 t216 t217 t220 0 0 false 0 0 (wrap64 (a0 - 1)) false true false (x227013_1 ++ [t227]) 0 0 0 y223 0 0) else (none)) = some (r1, r2, r3, r4, r5, r6, r7, r8, r9, r10, r11, r12, r13, r14, r15, r16, r17, r18, r19, r20) := H
        have A16 := Aside0.mk A160
        clear A160
        by_cases c17 : x227013_1.length < 140737488355328
        · rw [if_pos c17] at H
          have LMc17 := Aside0.mk c17
          clear c17
          obtain ⟨y228, hy228⟩ : ∃ y_ : List Bool, y_ = (x227013_1 ++ [t227]) := ⟨_, rfl⟩
          replace H : (impl_newScreen.l0 k1 a1 (wrap64 (x15_1 + 1)) t215 t216 t217 t220 0 0 false 0 0 (wrap64 (a0 - 1)) false true false y228 0 0 0 y223 0 0) = some (r1, r2, r3, r4, r5, r6, r7, r8, r9, r10, r11, r12, r13, r14, r15, r16, r17, r18, r19, r20) := by first | (rw [hy228]; with_reducible exact H) | (have H2_ := (Option.bind_some _ _).symm.trans H; rw [hy228]; with_reducible exact H2_) | (have H2_ := (Option.bind_some _ _).symm.trans H; with_reducible exact H2_) | with_reducible exact H | (rw [hy228]; exact H) | exact H
          have Ny228 := Aside0.mk hy228
          clear hy228
          have H' := Aside0.mk H
          clear H
          try go_wp2_with (first | ((with_reducible refine Go.Proofs.YtagipnepckgdfaaCells.gate_load (t := 64) (p := 5) rfl ?_); refine Go.Proofs.YtagipnepckgdfaaCells.load_whole (ty := 64) (p := 5) (g := gb226) (t := 64) ?hg ?ho ?hx (by (with_reducible repeat (first | refine blk_drewN ?_ _ | refine blk_drew ?_ | refine blk_alloc ?_ _)); exact BK226.out) Try.underlying64 rfl ?hi ?_; (case ho => rfl); (case hg => rfl); (case hx => rfl); (case hi => kernel_rfl)))
          have n0_ := Aside0.mk (Kd.R_drew HO_227002.out)
          have n1_ := Aside0.mk (Kd.R_drew HO_227003.out)
          have n2_ := Aside0.mk (Kd.R_drew HO_227013.out)
          have n3_ := Aside0.mk (Kd.R_drew HO_227017.out)
          have n4_ := Aside0.mk (blk_drew BK214.out)
          have n5_ := Aside0.mk (blk_drew BK226.out)
          have n6_ := Aside0.mk (below_drew1 HB.out)
          clear HO_227002
          clear HO_227003
          clear HO_227013
          clear HO_227017
          clear BK214
          clear BK226
          clear HB
          have HO_227002 := n0_
          have HO_227003 := n1_
          have HO_227013 := n2_
          have HO_227017 := n3_
          have BK214 := n4_
          have BK226 := n5_
          have HB := n6_
          clear n0_ n1_ n2_ n3_ n4_ n5_ n6_
          refine start_ (n := 8) (S := fun w' => w'.cell? ⟨gb226, 0, none⟩ = some (.int .i64 t215) ∧ w'.cell? ⟨gb226, 1, none⟩ = some (.int .i64 t216) ∧ w'.cell? ⟨gb226, 2, none⟩ = some (.slice Ao10 t217.length co10) ∧ w'.cell? ⟨gb226, 3, none⟩ = some (.slice Ao9 t220.length co9) ∧ w'.cell? ⟨gb226, 4, none⟩ = some (.int .i64 0) ∧ w'.cell? ⟨gb226, 5, none⟩ = some (.int .i64 0) ∧ w'.cell? ⟨gb226, 6, none⟩ = some (.bool false) ∧ w'.cell? ⟨gb226, 7, none⟩ = some (.int .i64 0) ∧ w'.cell? ⟨gb226, 8, none⟩ = some (.int .i64 0) ∧ w'.cell? ⟨gb226, 9, none⟩ = some (.int .i64 (wrap64 (a0 - 1))) ∧ w'.cell? ⟨gb226, 10, none⟩ = some (.bool false) ∧ w'.cell? ⟨gb226, 11, none⟩ = some (.bool true) ∧ w'.cell? ⟨gb226, 12, none⟩ = some (.bool false) ∧ w'.cell? ⟨gb226, 13, none⟩ = some (u227013) ∧ w'.cell? ⟨gb226, 14, none⟩ = some (.int .i64 0) ∧ w'.cell? ⟨gb226, 15, none⟩ = some (.int .i64 0) ∧ w'.cell? ⟨gb226, 16, none⟩ = some (.int .i64 0) ∧ w'.cell? ⟨gb226, 17, none⟩ = some (.slice Ao8 y223.length co8) ∧ w'.cell? ⟨gb226, 18, none⟩ = some (.int .i64 0) ∧ w'.cell? ⟨gb226, 19, none⟩ = some (.int .i64 0)) (ds := [7]) #[false, false, false, false, false, false, false, false] (by kernel_rfl) rfl rfl ⟨(blk_cell BK226.out 0).trans rfl, (blk_cell BK226.out 1).trans rfl, (blk_cell BK226.out 2).trans rfl, (blk_cell BK226.out 3).trans rfl, (blk_cell BK226.out 4).trans rfl, (blk_cell BK226.out 5).trans rfl, (blk_cell BK226.out 6).trans rfl, (blk_cell BK226.out 7).trans rfl, (blk_cell BK226.out 8).trans rfl, (blk_cell BK226.out 9).trans rfl, (blk_cell BK226.out 10).trans rfl, (blk_cell BK226.out 11).trans rfl, (blk_cell BK226.out 12).trans rfl, (blk_cell BK226.out 13).trans rfl, (blk_cell BK226.out 14).trans rfl, (blk_cell BK226.out 15).trans rfl, (blk_cell BK226.out 16).trans rfl, (blk_cell BK226.out 17).trans rfl, (blk_cell BK226.out 18).trans rfl, (blk_cell BK226.out 19).trans rfl⟩ (fun hHeld => ?_); refine with_tabW impl_newScreen.tab5 impl_newScreen.bits5 (fun HT_ HW_ => ?_)
          generalize wr.drew = w18 at HO_227002 HO_227003 HO_227013 HO_227017 BK214 BK226 HB hHeld ⊢
          refine pure_ (i := 0) (N := some 18) (v := ?_) (a' := ?_) #[true, false, false, false, false, false, false, false] rfl rfl (any_of HT_.out (by kernel_rfl)) (fun _ _ _ h => h) (Or.inl ⟨by rfl, ?_⟩) ?_ ?_
          rotate_left
          · intro w'
            go_simp
            with_reducible rfl
          rotate_left
          · simp only [Act.put, List.setIfInBounds_toArray, List.set_cons_zero, List.set_cons_succ, i64_w, i32_w]
            rfl
          refine pure_ (i := 2) (N := some 20) (v := ?_) (a' := ?_) #[true, false, true, false, false, false, false, false] rfl rfl (any_of HT_.out (by kernel_rfl)) (fun _ _ _ h => h) (Or.inl ⟨by rfl, ?_⟩) ?_ ?_
          rotate_left
          · intro w'
            go_simp
            with_reducible rfl
          rotate_left
          · simp only [Act.put, List.setIfInBounds_toArray, List.set_cons_zero, List.set_cons_succ, i64_w, i32_w]
            rfl
          refine take_ (i := 1) (N := some 19) (v := ?_) (a' := ?_) #[true, true, true, false, false, false, false, false] rfl rfl (take_ofW HT_.out HW_.out (by kernel_rfl)) (fun _ _ _ h => h) (Or.inl ⟨by rfl, ?_⟩) hHeld ?_ ?_
          rotate_left
          · rintro w' ⟨s0, s1, s2, s3, s4, s5, s6, s7, s8, s9, s10, s11, s12, s13, s14, s15, s16, s17, s18, s19⟩
            go_simp
            with_reducible rfl
          rotate_left
          · simp only [Act.put, List.setIfInBounds_toArray, List.set_cons_zero, List.set_cons_succ, i64_w, i32_w]
            rfl
          refine one_ (i := 3) (N := some 21) #[true, true, true, true, false, false, false, false] rfl rfl (one_of HT_.out (by kernel_rfl)) (by decide) (fun K hK => ?_)
          refine goes_ Try.func121 (by kernel_rfl) rfl #[.int .i64 x15_1] (by rfl) rfl rfl (by (try simp only [List.map_toArray, List.map_cons, List.map_nil]); first | done | rfl | (simp only [List.length_drop, List.length_take]; rfl)) ?_
          with_reducible refine (impl_isTab.calls x15_1 t227 _ A16.out).mono ?_
          rintro e w' ⟨rfl, ⟨nd, rfl⟩⟩
          refine ⟨_, rfl, ?_⟩
          refine hK.out _ _ ⟨(blk_cell BK226.out 0).trans rfl, (blk_cell BK226.out 1).trans rfl, (blk_cell BK226.out 2).trans rfl, (blk_cell BK226.out 3).trans rfl, (blk_cell BK226.out 4).trans rfl, (blk_cell BK226.out 5).trans rfl, (blk_cell BK226.out 6).trans rfl, (blk_cell BK226.out 7).trans rfl, (blk_cell BK226.out 8).trans rfl, (blk_cell BK226.out 9).trans rfl, (blk_cell BK226.out 10).trans rfl, (blk_cell BK226.out 11).trans rfl, (blk_cell BK226.out 12).trans rfl, (blk_cell BK226.out 13).trans rfl, (blk_cell BK226.out 14).trans rfl, (blk_cell BK226.out 15).trans rfl, (blk_cell BK226.out 16).trans rfl, (blk_cell BK226.out 17).trans rfl, (blk_cell BK226.out 18).trans rfl, (blk_cell BK226.out 19).trans rfl⟩ (fun hHeld => ?_)
          clear hK K
          refine norm_ (a' := ?_) ?_ ?_
          rotate_left
          · show Act.put _ (some 21) _ = _
            simp only [Act.put, List.setIfInBounds_toArray, List.set_cons_zero, List.set_cons_succ, i64_w, i32_w]
            rfl
          refine one_ (i := 4) (N := some 22) #[true, true, true, true, true, false, false, false] rfl rfl (one_of HT_.out (by kernel_rfl)) (by decide) (fun K hK => ?_)
          refine value_ (w1 := ?_) (v := ?_) (by rfl) rfl ?_ ?_
          rotate_left 2
          · go_simp
            constructor
            · rfl
            · rfl
          refine hK.out _ _ ⟨(blk_cell (blk_alloc BK226.out _) 0).trans rfl, (blk_cell (blk_alloc BK226.out _) 1).trans rfl, (blk_cell (blk_alloc BK226.out _) 2).trans rfl, (blk_cell (blk_alloc BK226.out _) 3).trans rfl, (blk_cell (blk_alloc BK226.out _) 4).trans rfl, (blk_cell (blk_alloc BK226.out _) 5).trans rfl, (blk_cell (blk_alloc BK226.out _) 6).trans rfl, (blk_cell (blk_alloc BK226.out _) 7).trans rfl, (blk_cell (blk_alloc BK226.out _) 8).trans rfl, (blk_cell (blk_alloc BK226.out _) 9).trans rfl, (blk_cell (blk_alloc BK226.out _) 10).trans rfl, (blk_cell (blk_alloc BK226.out _) 11).trans rfl, (blk_cell (blk_alloc BK226.out _) 12).trans rfl, (blk_cell (blk_alloc BK226.out _) 13).trans rfl, (blk_cell (blk_alloc BK226.out _) 14).trans rfl, (blk_cell (blk_alloc BK226.out _) 15).trans rfl, (blk_cell (blk_alloc BK226.out _) 16).trans rfl, (blk_cell (blk_alloc BK226.out _) 17).trans rfl, (blk_cell (blk_alloc BK226.out _) 18).trans rfl, (blk_cell (blk_alloc BK226.out _) 19).trans rfl⟩ (fun hHeld => ?_)
          clear hK K
          refine norm_ (a' := ?_) ?_ ?_
          rotate_left
          · show Act.put _ (some 22) _ = _
            simp only [Act.put, List.setIfInBounds_toArray, List.set_cons_zero, List.set_cons_succ, i64_w, i32_w]
            rfl
          refine one_ (i := 5) (N := some 23) #[true, true, true, true, true, true, false, false] rfl rfl (one_of HT_.out (by kernel_rfl)) (by decide) (fun K hK => ?_)
          refine Kd.R_append_step Kd.bool (w0 := w) w.heap.size (by rfl) (.tmp 19) (.tmp 22) 58 4 (.bool false) 1 rfl Try.underlying58 info4 rfl (by decide) (by omega) u227013 x227013_1 t227 [.bool t227] (fun _ => True) (fun _ => False) rfl rfl ?aP (fun _ hk => hk.elim) ?aF ?aO ?aB ?aS ?aL ?_
          (case aP => exact rfl)
          (case aB => exact (by repeat (first | (with_reducible first | exact HB.out | apply below_alloc | apply pw_below_drewN | apply below_drew1 | refine below_set ?_ GE214.out | refine below_set ?_ GE226.out) | exact HB.out)))
          (case aF => exact (fun _ _ => trivial))
          (case aO => exact (by (with_reducible repeat (first | apply Kd.R_alloc | apply Kd.R_drewN | apply Kd.R_drew)); exact HO_227013.out))
          (case aS => exact (below_size (by repeat (first | (with_reducible first | exact HB.out | apply below_alloc | apply pw_below_drewN | apply below_drew1 | refine below_set ?_ GE214.out | refine below_set ?_ GE226.out) | exact HB.out))))
          (case aL => have := LMc17.out; omega)
          intro v229 w19 ho hb hg hat
          rw [← Ny228.out] at ho
          have n0_ := Aside0.mk (Kd.R_over' (by (with_reducible repeat (first | apply Kd.R_alloc | apply Kd.R_drewN | apply Kd.R_drew)); exact HO_227002.out) (Kd.R_typed (by (with_reducible repeat (first | apply Kd.R_alloc | apply Kd.R_drewN | apply Kd.R_drew)); exact HO_227013.out)) (by decide) hg)
          have n1_ := Aside0.mk (Kd.R_over' (by (with_reducible repeat (first | apply Kd.R_alloc | apply Kd.R_drewN | apply Kd.R_drew)); exact HO_227003.out) (Kd.R_typed (by (with_reducible repeat (first | apply Kd.R_alloc | apply Kd.R_drewN | apply Kd.R_drew)); exact HO_227013.out)) (by decide) hg)
          have n2_ := Aside0.mk (Kd.R_over' (by (with_reducible repeat (first | apply Kd.R_alloc | apply Kd.R_drewN | apply Kd.R_drew)); exact HO_227017.out) (Kd.R_typed (by (with_reducible repeat (first | apply Kd.R_alloc | apply Kd.R_drewN | apply Kd.R_drew)); exact HO_227013.out)) (by decide) hg)
          have n3_ := Aside0.mk (blk_grown (g := gb214) (o := .cells #[.int .i64 0, .int .i64 0, .slice none 0 0, .slice none 0 0, .int .i64 0, .int .i64 0, .bool false, .int .i64 0, .int .i64 0, .int .i64 0, .bool false, .bool false, .bool false, .slice none 0 0, .int .i64 0, .int .i64 0, .int .i64 0, .slice none 0 0, .int .i64 0, .int .i64 0] 64 (0, 0)) (by (with_reducible repeat (first | refine blk_drewN ?_ _ | refine blk_drew ?_ | refine blk_alloc ?_ _)); exact BK214.out) hg (Kd.R_ne HO_227013.out BK214.out (by decide)))
          have n4_ := Aside0.mk (blk_grown (g := gb226) (o := .cells #[.int .i64 t215, .int .i64 t216, .slice Ao10 t217.length co10, .slice Ao9 t220.length co9, .int .i64 0, .int .i64 0, .bool false, .int .i64 0, .int .i64 0, .int .i64 (wrap64 (a0 - 1)), .bool false, .bool true, .bool false, u227013, .int .i64 0, .int .i64 0, .int .i64 0, .slice Ao8 y223.length co8, .int .i64 0, .int .i64 0] 64 (0, 0)) (by (with_reducible repeat (first | refine blk_drewN ?_ _ | refine blk_drew ?_ | refine blk_alloc ?_ _)); exact BK226.out) hg (Kd.R_ne HO_227013.out BK226.out (by decide)))
          have n5_ := Aside0.mk (hb)
          have n6_ := Aside0.mk (ho)
          clear HO_227002
          clear HO_227003
          clear HO_227017
          clear BK214
          clear BK226
          clear HB
          clear HO_227013
          have HO_227002 := n0_
          have HO_227003 := n1_
          have HO_227017 := n2_
          have BK214 := n3_
          have BK226 := n4_
          have HB := n5_
          have HO230 := n6_
          clear n0_ n1_ n2_ n3_ n4_ n5_ n6_
          clear ho hb hg hat
          obtain ⟨Ao20, co20, eo20⟩ := Kd.R_slice HO230.out
          (first | subst eo20 | (injection eo20 with f1_ f2_ f3_; have f4_ := f1_.symm; have f5_ := f3_.symm; clear f1_ f2_ f3_; subst f4_; subst f5_))
          refine hK.out _ _ ⟨(blk_cell BK226.out 0).trans rfl, (blk_cell BK226.out 1).trans rfl, (blk_cell BK226.out 2).trans rfl, (blk_cell BK226.out 3).trans rfl, (blk_cell BK226.out 4).trans rfl, (blk_cell BK226.out 5).trans rfl, (blk_cell BK226.out 6).trans rfl, (blk_cell BK226.out 7).trans rfl, (blk_cell BK226.out 8).trans rfl, (blk_cell BK226.out 9).trans rfl, (blk_cell BK226.out 10).trans rfl, (blk_cell BK226.out 11).trans rfl, (blk_cell BK226.out 12).trans rfl, (blk_cell BK226.out 13).trans rfl, (blk_cell BK226.out 14).trans rfl, (blk_cell BK226.out 15).trans rfl, (blk_cell BK226.out 16).trans rfl, (blk_cell BK226.out 17).trans rfl, (blk_cell BK226.out 18).trans rfl, (blk_cell BK226.out 19).trans rfl⟩ (fun hHeld => ?_)
          clear hK K
          refine norm_ (a' := ?_) ?_ ?_
          rotate_left
          · show Act.put _ (some 23) _ = _
            simp only [Act.put, List.setIfInBounds_toArray, List.set_cons_zero, List.set_cons_succ, i64_w, i32_w]
            rfl
          refine pure_ (i := 6) (N := some 24) (v := ?_) (a' := ?_) #[true, true, true, true, true, true, true, false] rfl rfl (any_of HT_.out (by kernel_rfl)) (fun _ _ _ h => h) (Or.inl ⟨by rfl, ?_⟩) ?_ ?_
          rotate_left
          · intro w'
            go_simp
            with_reducible rfl
          rotate_left
          · simp only [Act.put, List.setIfInBounds_toArray, List.set_cons_zero, List.set_cons_succ, i64_w, i32_w]
            rfl
          refine last_ (i := 7) (N := none) #[true, true, true, true, true, true, true, true] rfl rfl (one_of HT_.out (by kernel_rfl)) (by decide) (fun K hK => ?_)
          have hs21 : w19.cell? ⟨gb226, 13, none⟩ = some (u227013) := (blk_cell BK226.out 13).trans rfl
          have hfs21 := blk_frozen BK226.out 13
          have hns21_0 := NB214_226.out
          have hms21_0 := NB226_214.out
          refine skip_ (w1 := ?_) (by rfl) rfl ?_ ?_
          rotate_left
          · go_simp
            rfl
          refine hK.out _ _ ?_
          clear hK K
          refine done_ (done_of HT_.out (by kernel_rfl)) ?_
          try go_wp2_with (first | ((with_reducible refine Go.Proofs.YtagipnepckgdfaaCells.gate_load (t := 64) (p := 5) rfl ?_); refine Go.Proofs.YtagipnepckgdfaaCells.load_whole (ty := 64) (p := 5) (g := gb226) (t := 64) ?hg ?ho ?hx (by (with_reducible repeat (first | refine blk_drewN ?_ _ | refine blk_drew ?_ | refine blk_alloc ?_ _)); exact BK226.out) Try.underlying64 rfl ?hi ?_; (case ho => rfl); (case hg => rfl); (case hx => rfl); (case hi => kernel_rfl)))
          go_roundg k1
          case measure => have := HK1.out; omega
          case rel => exact ⟨(wrap64 (x15_1 + 1)), (y228), (.slice Ao20 y228.length co20), (by first | rfl | (simp; done) | (simp [*]; done)), H', ⟨by have := HK1.out; omega⟩, ⟨by (with_reducible repeat (first | apply Kd.R_alloc | apply Kd.R_drewN | apply Kd.R_drew)); exact Kd.R_mono (Kd.R_far (p := ⟨gb226, 13, none⟩) (Kd.R_types HO_227002.out BK226.out (by decide)) (fun _ hk => hk.2) (.slice Ao20 y228.length co20)) (fun _ hk => hk.1)⟩, ⟨by (with_reducible repeat (first | apply Kd.R_alloc | apply Kd.R_drewN | apply Kd.R_drew)); exact Kd.R_mono (Kd.R_far (p := ⟨gb226, 13, none⟩) (Kd.R_types HO_227003.out BK226.out (by decide)) (fun _ hk => hk.2) (.slice Ao20 y228.length co20)) (fun _ hk => hk.1)⟩, ⟨by (with_reducible repeat (first | apply Kd.R_alloc | apply Kd.R_drewN | apply Kd.R_drew)); exact Kd.R_mono (Kd.R_far (p := ⟨gb226, 13, none⟩) (Kd.R_types HO230.out BK226.out (by decide)) (fun _ hk => hk.2) (.slice Ao20 y228.length co20)) (fun _ hk => trivial)⟩, ⟨by (with_reducible repeat (first | apply Kd.R_alloc | apply Kd.R_drewN | apply Kd.R_drew)); exact Kd.R_mono (Kd.R_far (p := ⟨gb226, 13, none⟩) (Kd.R_types HO_227017.out BK226.out (by decide)) (fun _ hk => hk.2) (.slice Ao20 y228.length co20)) (fun _ hk => trivial)⟩, ⟨by (with_reducible repeat (first | refine blk_drewN ?_ _ | refine blk_drew ?_ | refine blk_alloc ?_ _)); refine blk_far ?_ NB214_226.out _; (with_reducible repeat (first | refine blk_drewN ?_ _ | refine blk_drew ?_ | refine blk_alloc ?_ _)); exact BK214.out⟩, ⟨by (with_reducible repeat (first | refine blk_drewN ?_ _ | refine blk_drew ?_ | refine blk_alloc ?_ _)); refine blk_put (cs := #[.int .i64 t215, .int .i64 t216, .slice Ao10 t217.length co10, .slice Ao9 t220.length co9, .int .i64 0, .int .i64 0, .bool false, .int .i64 0, .int .i64 0, .int .i64 (wrap64 (a0 - 1)), .bool false, .bool true, .bool false, u227013, .int .i64 0, .int .i64 0, .int .i64 0, .slice Ao8 y223.length co8, .int .i64 0, .int .i64 0]) ?_ 13 _ rfl; (with_reducible repeat (first | refine blk_drewN ?_ _ | refine blk_drew ?_ | refine blk_alloc ?_ _)); exact BK226.out⟩, ⟨by repeat (first | (with_reducible first | exact HB.out | apply below_alloc | apply pw_below_drewN | apply below_drew1 | refine below_set ?_ GE214.out | refine below_set ?_ GE226.out) | exact HB.out)⟩⟩
        · rw [if_neg c17] at H
          exact absurd H (by simp)
      · rw [if_neg c15] at H
        have c15b0 : decide (x15_1 < a1) = false := decide_eq_false c15
        clear c15
        simp only [Option.some.injEq, Prod.mk.injEq] at H
        obtain ⟨rfl, rfl, rfl, rfl, rfl, rfl, rfl, rfl, rfl, rfl, rfl, rfl, rfl, rfl, rfl, rfl, rfl, rfl, rfl, rfl⟩ := H
        have hnb22 := NB226_214.out
        have hnc22 := NB214_226.out
        have hcz23_0 : wr.cell? ⟨gb226, 0, none⟩ = some (.int .i64 t215) := (blk_cell BK226.out 0).trans rfl
        have hcz23_1 : wr.cell? ⟨gb226, 1, none⟩ = some (.int .i64 t216) := (blk_cell BK226.out 1).trans rfl
        have hcz23_2 : wr.cell? ⟨gb226, 2, none⟩ = some (.slice Ao10 t217.length co10) := (blk_cell BK226.out 2).trans rfl
        have hcz23_3 : wr.cell? ⟨gb226, 3, none⟩ = some (.slice Ao9 t220.length co9) := (blk_cell BK226.out 3).trans rfl
        have hcz23_4 : wr.cell? ⟨gb226, 4, none⟩ = some (.int .i64 0) := (blk_cell BK226.out 4).trans rfl
        have hcz23_5 : wr.cell? ⟨gb226, 5, none⟩ = some (.int .i64 0) := (blk_cell BK226.out 5).trans rfl
        have hcz23_6 : wr.cell? ⟨gb226, 6, none⟩ = some (.bool false) := (blk_cell BK226.out 6).trans rfl
        have hcz23_7 : wr.cell? ⟨gb226, 7, none⟩ = some (.int .i64 0) := (blk_cell BK226.out 7).trans rfl
        have hcz23_8 : wr.cell? ⟨gb226, 8, none⟩ = some (.int .i64 0) := (blk_cell BK226.out 8).trans rfl
        have hcz23_9 : wr.cell? ⟨gb226, 9, none⟩ = some (.int .i64 (wrap64 (a0 - 1))) := (blk_cell BK226.out 9).trans rfl
        have hcz23_10 : wr.cell? ⟨gb226, 10, none⟩ = some (.bool false) := (blk_cell BK226.out 10).trans rfl
        have hcz23_11 : wr.cell? ⟨gb226, 11, none⟩ = some (.bool true) := (blk_cell BK226.out 11).trans rfl
        have hcz23_12 : wr.cell? ⟨gb226, 12, none⟩ = some (.bool false) := (blk_cell BK226.out 12).trans rfl
        have hcz23_13 : wr.cell? ⟨gb226, 13, none⟩ = some (u227013) := (blk_cell BK226.out 13).trans rfl
        have hcz23_14 : wr.cell? ⟨gb226, 14, none⟩ = some (.int .i64 0) := (blk_cell BK226.out 14).trans rfl
        have hcz23_15 : wr.cell? ⟨gb226, 15, none⟩ = some (.int .i64 0) := (blk_cell BK226.out 15).trans rfl
        have hcz23_16 : wr.cell? ⟨gb226, 16, none⟩ = some (.int .i64 0) := (blk_cell BK226.out 16).trans rfl
        have hcz23_17 : wr.cell? ⟨gb226, 17, none⟩ = some (.slice Ao8 y223.length co8) := (blk_cell BK226.out 17).trans rfl
        have hcz23_18 : wr.cell? ⟨gb226, 18, none⟩ = some (.int .i64 0) := (blk_cell BK226.out 18).trans rfl
        have hcz23_19 : wr.cell? ⟨gb226, 19, none⟩ = some (.int .i64 0) := (blk_cell BK226.out 19).trans rfl
        have hfz23_0 := blk_frozen BK226.out 0
        have hfz23_1 := blk_frozen BK226.out 1
        have hfz23_2 := blk_frozen BK226.out 2
        have hfz23_3 := blk_frozen BK226.out 3
        have hfz23_4 := blk_frozen BK226.out 4
        have hfz23_5 := blk_frozen BK226.out 5
        have hfz23_6 := blk_frozen BK226.out 6
        have hfz23_7 := blk_frozen BK226.out 7
        have hfz23_8 := blk_frozen BK226.out 8
        have hfz23_9 := blk_frozen BK226.out 9
        have hfz23_10 := blk_frozen BK226.out 10
        have hfz23_11 := blk_frozen BK226.out 11
        have hfz23_12 := blk_frozen BK226.out 12
        have hfz23_13 := blk_frozen BK226.out 13
        have hfz23_14 := blk_frozen BK226.out 14
        have hfz23_15 := blk_frozen BK226.out 15
        have hfz23_16 := blk_frozen BK226.out 16
        have hfz23_17 := blk_frozen BK226.out 17
        have hfz23_18 := blk_frozen BK226.out 18
        have hfz23_19 := blk_frozen BK226.out 19
        have hcz24_0 : wr.cell? ⟨gb214, 0, none⟩ = some (.int .i64 0) := (blk_cell BK214.out 0).trans rfl
        have hcz24_1 : wr.cell? ⟨gb214, 1, none⟩ = some (.int .i64 0) := (blk_cell BK214.out 1).trans rfl
        have hcz24_2 : wr.cell? ⟨gb214, 2, none⟩ = some (.slice none 0 0) := (blk_cell BK214.out 2).trans rfl
        have hcz24_3 : wr.cell? ⟨gb214, 3, none⟩ = some (.slice none 0 0) := (blk_cell BK214.out 3).trans rfl
        have hcz24_4 : wr.cell? ⟨gb214, 4, none⟩ = some (.int .i64 0) := (blk_cell BK214.out 4).trans rfl
        have hcz24_5 : wr.cell? ⟨gb214, 5, none⟩ = some (.int .i64 0) := (blk_cell BK214.out 5).trans rfl
        have hcz24_6 : wr.cell? ⟨gb214, 6, none⟩ = some (.bool false) := (blk_cell BK214.out 6).trans rfl
        have hcz24_7 : wr.cell? ⟨gb214, 7, none⟩ = some (.int .i64 0) := (blk_cell BK214.out 7).trans rfl
        have hcz24_8 : wr.cell? ⟨gb214, 8, none⟩ = some (.int .i64 0) := (blk_cell BK214.out 8).trans rfl
        have hcz24_9 : wr.cell? ⟨gb214, 9, none⟩ = some (.int .i64 0) := (blk_cell BK214.out 9).trans rfl
        have hcz24_10 : wr.cell? ⟨gb214, 10, none⟩ = some (.bool false) := (blk_cell BK214.out 10).trans rfl
        have hcz24_11 : wr.cell? ⟨gb214, 11, none⟩ = some (.bool false) := (blk_cell BK214.out 11).trans rfl
        have hcz24_12 : wr.cell? ⟨gb214, 12, none⟩ = some (.bool false) := (blk_cell BK214.out 12).trans rfl
        have hcz24_13 : wr.cell? ⟨gb214, 13, none⟩ = some (.slice none 0 0) := (blk_cell BK214.out 13).trans rfl
        have hcz24_14 : wr.cell? ⟨gb214, 14, none⟩ = some (.int .i64 0) := (blk_cell BK214.out 14).trans rfl
        have hcz24_15 : wr.cell? ⟨gb214, 15, none⟩ = some (.int .i64 0) := (blk_cell BK214.out 15).trans rfl
        have hcz24_16 : wr.cell? ⟨gb214, 16, none⟩ = some (.int .i64 0) := (blk_cell BK214.out 16).trans rfl
        have hcz24_17 : wr.cell? ⟨gb214, 17, none⟩ = some (.slice none 0 0) := (blk_cell BK214.out 17).trans rfl
        have hcz24_18 : wr.cell? ⟨gb214, 18, none⟩ = some (.int .i64 0) := (blk_cell BK214.out 18).trans rfl
        have hcz24_19 : wr.cell? ⟨gb214, 19, none⟩ = some (.int .i64 0) := (blk_cell BK214.out 19).trans rfl
        have hfz24_0 := blk_frozen BK214.out 0
        have hfz24_1 := blk_frozen BK214.out 1
        have hfz24_2 := blk_frozen BK214.out 2
        have hfz24_3 := blk_frozen BK214.out 3
        have hfz24_4 := blk_frozen BK214.out 4
        have hfz24_5 := blk_frozen BK214.out 5
        have hfz24_6 := blk_frozen BK214.out 6
        have hfz24_7 := blk_frozen BK214.out 7
        have hfz24_8 := blk_frozen BK214.out 8
        have hfz24_9 := blk_frozen BK214.out 9
        have hfz24_10 := blk_frozen BK214.out 10
        have hfz24_11 := blk_frozen BK214.out 11
        have hfz24_12 := blk_frozen BK214.out 12
        have hfz24_13 := blk_frozen BK214.out 13
        have hfz24_14 := blk_frozen BK214.out 14
        have hfz24_15 := blk_frozen BK214.out 15
        have hfz24_16 := blk_frozen BK214.out 16
        have hfz24_17 := blk_frozen BK214.out 17
        have hfz24_18 := blk_frozen BK214.out 18
        have hfz24_19 := blk_frozen BK214.out 19
        obtain ⟨Ao25, co25, eo25⟩ := Kd.R_slice HO_227013.out
        subst eo25
        go_wp2_with (first | ((with_reducible refine Go.Proofs.YtagipnepckgdfaaCells.gate_load (t := 64) (p := 5) rfl ?_); refine Go.Proofs.YtagipnepckgdfaaCells.load_whole (ty := 64) (p := 5) (g := gb226) (t := 64) ?hg ?ho ?hx (by (with_reducible repeat (first | refine blk_drewN ?_ _ | refine blk_drew ?_ | refine blk_alloc ?_ _)); exact BK226.out) Try.underlying64 rfl ?hi ?_; (case ho => rfl); (case hg => rfl); (case hx => rfl); (case hi => kernel_rfl)) | ((with_reducible refine gate_store (t := 64) (p := 4) rfl ?_); refine Go.Proofs.YtagipnepckgdfaaCells.store_whole (ty := 64) (x := .tmp 4) (y := ?vo_w26) (g := gb214) (cells := [.int .i64 t215, .int .i64 t216, .slice Ao10 t217.length co10, .slice Ao9 t220.length co9, .int .i64 0, .int .i64 0, .bool false, .int .i64 0, .int .i64 0, .int .i64 (wrap64 (a0 - 1)), .bool false, .bool true, .bool false, .slice Ao25 x227013_1.length co25, .int .i64 0, .int .i64 0, .int .i64 0, .slice Ao8 y223.length co8, .int .i64 0, .int .i64 0]) (t := 64) (old := [.int .i64 0, .int .i64 0, .slice none 0 0, .slice none 0 0, .int .i64 0, .int .i64 0, .bool false, .int .i64 0, .int .i64 0, .int .i64 0, .bool false, .bool false, .bool false, .slice none 0 0, .int .i64 0, .int .i64 0, .int .i64 0, .slice none 0 0, .int .i64 0, .int .i64 0]) ?hg ?ho ?hx ?hy ?hn ?hb ?hi rfl rfl ?_; (case ho => rfl); (case hg => rfl); (case hn => rfl); (case hx => rfl); (case hy => first | rfl | (go_simp; done) | (simp [*]; done)); (case hb => exact (by (with_reducible repeat (first | refine blk_drewN ?_ _ | refine blk_drew ?_ | refine blk_alloc ?_ _)); exact BK214.out)); (case hi => kernel_rfl); intro w26 hob_ hbk hfar hbel; have n0_ : Aside0 (Kd.R k107 107 w26 w.heap.size (fun k_ => some k_ ≠ (.slice Ao9 t220.length co9 : Value).ownBlock) (.slice Ao10 t217.length co10) t217) := ⟨Go.Proofs.YtagipnepckgdfaaCells.R_whole (by (with_reducible repeat (first | apply Kd.R_alloc | apply Kd.R_drewN | apply Kd.R_drew)); exact HO_227002.out) hob_ (by decide) hfar⟩; have n1_ : Aside0 (Kd.R k107 107 w26 w.heap.size (fun k_ => some k_ ≠ (.slice Ao10 t217.length co10 : Value).ownBlock) (.slice Ao9 t220.length co9) t220) := ⟨Go.Proofs.YtagipnepckgdfaaCells.R_whole (by (with_reducible repeat (first | apply Kd.R_alloc | apply Kd.R_drewN | apply Kd.R_drew)); exact HO_227003.out) hob_ (by decide) hfar⟩; have n2_ : Aside0 (Kd.R Kd.bool 4 w26 w.heap.size (fun _ => True) (.slice Ao25 x227013_1.length co25) x227013_1) := ⟨Go.Proofs.YtagipnepckgdfaaCells.R_whole (by (with_reducible repeat (first | apply Kd.R_alloc | apply Kd.R_drewN | apply Kd.R_drew)); exact HO_227013.out) hob_ (by decide) hfar⟩; have n3_ : Aside0 (Kd.R (Kd.int .i64) 2 w26 w.heap.size (fun _ => True) (.slice Ao8 y223.length co8) y223) := ⟨Go.Proofs.YtagipnepckgdfaaCells.R_whole (by (with_reducible repeat (first | apply Kd.R_alloc | apply Kd.R_drewN | apply Kd.R_drew)); exact HO_227017.out) hob_ (by decide) hfar⟩; have n4_ : Aside0 (w26.heap[gb214]? = some (.cells #[.int .i64 t215, .int .i64 t216, .slice Ao10 t217.length co10, .slice Ao9 t220.length co9, .int .i64 0, .int .i64 0, .bool false, .int .i64 0, .int .i64 0, .int .i64 (wrap64 (a0 - 1)), .bool false, .bool true, .bool false, .slice Ao25 x227013_1.length co25, .int .i64 0, .int .i64 0, .int .i64 0, .slice Ao8 y223.length co8, .int .i64 0, .int .i64 0] 64 (0, 0))) := ⟨hbk⟩; have n5_ : Aside0 (w26.heap[gb226]? = some (.cells #[.int .i64 t215, .int .i64 t216, .slice Ao10 t217.length co10, .slice Ao9 t220.length co9, .int .i64 0, .int .i64 0, .bool false, .int .i64 0, .int .i64 0, .int .i64 (wrap64 (a0 - 1)), .bool false, .bool true, .bool false, .slice Ao25 x227013_1.length co25, .int .i64 0, .int .i64 0, .int .i64 0, .slice Ao8 y223.length co8, .int .i64 0, .int .i64 0] 64 (0, 0))) := ⟨(hfar _ NB226_214.out).trans (by (with_reducible repeat (first | refine blk_drewN ?_ _ | refine blk_drew ?_ | refine blk_alloc ?_ _)); exact BK226.out)⟩; have n6_ : Aside0 (Below w.heap.size w w26) := ⟨hbel _ _ GE214.out (by repeat (first | (with_reducible first | exact HB.out | apply below_alloc | apply pw_below_drewN | apply below_drew1 | refine below_set ?_ GE214.out | refine below_set ?_ GE226.out) | exact HB.out))⟩; clear hob_ hbk hfar hbel; clear HO_227002; clear HO_227003; clear HO_227013; clear HO_227017; clear BK214; clear BK226; clear HB; have HO_227002 := n0_; have HO_227003 := n1_; have HO_227013 := n2_; have HO_227017 := n3_; have BK214 := n4_; have BK226 := n5_; have HB := n6_; clear n0_ n1_ n2_ n3_ n4_ n5_ n6_))
        refine bodyPost_ret (results_cell_row rfl _ _ gb214 64 #[.int .i64 t215, .int .i64 t216, .slice Ao10 t217.length co10, .slice Ao9 t220.length co9, .int .i64 0, .int .i64 0, .bool false, .int .i64 0, .int .i64 0, .int .i64 (wrap64 (a0 - 1)), .bool false, .bool true, .bool false, .slice Ao25 x227013_1.length co25, .int .i64 0, .int .i64 0, .int .i64 0, .slice Ao8 y223.length co8, .int .i64 0, .int .i64 0] (0, 0) _ rfl (by (with_reducible repeat (first | refine blk_drewN ?_ _ | refine blk_drew ?_ | refine blk_alloc ?_ _)); exact BK214.out) Try.underlying64 rfl (by kernel_rfl)) rfl ?_
        exact ⟨_, _, _, _, by first | rfl | (simp [errW_none, errW_some] <;> rfl) | (simp [*, errW_none, errW_some] <;> rfl), by (with_reducible repeat (first | apply Kd.R_alloc | apply Kd.R_drewN | apply Kd.R_drew)); exact HO_227002.out, by (with_reducible repeat (first | apply Kd.R_alloc | apply Kd.R_drewN | apply Kd.R_drew)); exact HO_227003.out, by (with_reducible repeat (first | apply Kd.R_alloc | apply Kd.R_drewN | apply Kd.R_drew)); exact HO_227013.out, by (with_reducible repeat (first | apply Kd.R_alloc | apply Kd.R_drewN | apply Kd.R_drew)); exact HO_227017.out, by repeat (first | (with_reducible first | exact HB.out | apply below_alloc | apply pw_below_drewN | apply below_drew1 | refine below_set ?_ GE214.out | refine below_set ?_ GE226.out) | exact HB.out)⟩

/-! ### impl_NewScreen: function 43 -/
def impl_NewScreen.f (k : Nat) (a0 : Int) (a1 : Int) : Option (Int × Int × Int × (List (S107)) × (List (S107)) × Int × Int × Bool × Int × Int × Int × Bool × Bool × Bool × List Bool × Int × Int × Int × List Int × Int × Int) := (impl_sizeOk.f a0 a1).bind fun t232 => (if t232 = true then ((impl_newScreen.f k a0 a1).bind fun bt233 => (some (0, bt233.1, bt233.2.1, bt233.2.2.1, bt233.2.2.2.1, bt233.2.2.2.2.1, bt233.2.2.2.2.2.1, bt233.2.2.2.2.2.2.1, bt233.2.2.2.2.2.2.2.1, bt233.2.2.2.2.2.2.2.2.1, bt233.2.2.2.2.2.2.2.2.2.1, bt233.2.2.2.2.2.2.2.2.2.2.1, bt233.2.2.2.2.2.2.2.2.2.2.2.1, bt233.2.2.2.2.2.2.2.2.2.2.2.2.1, bt233.2.2.2.2.2.2.2.2.2.2.2.2.2.1, bt233.2.2.2.2.2.2.2.2.2.2.2.2.2.2.1, bt233.2.2.2.2.2.2.2.2.2.2.2.2.2.2.2.1, bt233.2.2.2.2.2.2.2.2.2.2.2.2.2.2.2.2.1, bt233.2.2.2.2.2.2.2.2.2.2.2.2.2.2.2.2.2.1, bt233.2.2.2.2.2.2.2.2.2.2.2.2.2.2.2.2.2.2.1, bt233.2.2.2.2.2.2.2.2.2.2.2.2.2.2.2.2.2.2.2))) else (some (3, 0, 0, ([] : List (S107)), ([] : List (S107)), 0, 0, false, 0, 0, 0, false, false, false, ([] : List Bool), 0, 0, 0, ([] : List Int), 0, 0)))
theorem impl_NewScreen.mono : ∀ a0 a1 k, LeO (impl_NewScreen.f k a0 a1) (impl_NewScreen.f (k + 1) a0 a1) := by
  intro a0 a1 k
  unfold impl_NewScreen.f
  repeat' first
      | (with_reducible exact impl_newScreen.mono _ _ _)
      | (with_reducible exact LeO.refl _)
      | (with_reducible exact LeO.none _)
      | (with_reducible refine LeO.ite ?_ ?_)
      | (with_reducible refine LeO.bind ?_ (fun _ => ?_))
      | exact impl_newScreen.mono _ _ _
      | exact LeO.none _
      | refine LeO.ite ?_ ?_
      | refine LeO.bind ?_ (fun _ => ?_)
set_option maxHeartbeats 8000000 in
set_option maxRecDepth 100000 in
theorem impl_NewScreen.calls (k : Nat) (a0 : Int) (a1 : Int) (r1 : Int) (r2 : Int) (r3 : Int) (r4 : List (S107)) (r5 : List (S107)) (r6 : Int) (r7 : Int) (r8 : Bool) (r9 : Int) (r10 : Int) (r11 : Int) (r12 : Bool) (r13 : Bool) (r14 : Bool) (r15 : List Bool) (r16 : Int) (r17 : Int) (r18 : Int) (r19 : List Int) (r20 : Int) (r21 : Int) (w : World) (h : impl_NewScreen.f k a0 a1 = some (r1, r2, r3, r4, r5, r6, r7, r8, r9, r10, r11, r12, r13, r14, r15, r16, r17, r18, r19, r20, r21)) :
    Calls Try.prog 43 #[.int .i64 a0, .int .i64 a1] w fun e w' => ∃ v3_ v4_ v14_ v18_ : Value, e = .returned (.agg #[.int .i64 r1, .int .i64 r2, .int .i64 r3, v3_, v4_, .int .i64 r6, .int .i64 r7, .bool r8, .int .i64 r9, .int .i64 r10, .int .i64 r11, .bool r12, .bool r13, .bool r14, v14_, .int .i64 r16, .int .i64 r17, .int .i64 r18, v18_, .int .i64 r20, .int .i64 r21]) ∧ Kd.R k107 107 w' w.heap.size (fun k_ => some k_ ≠ (v4_ : Value).ownBlock) v3_ r4 ∧ Kd.R k107 107 w' w.heap.size (fun k_ => some k_ ≠ (v3_ : Value).ownBlock) v4_ r5 ∧ Kd.R Kd.bool 4 w' w.heap.size (fun _ => True) v14_ r15 ∧ Kd.R (Kd.int .i64) 2 w' w.heap.size (fun _ => True) v18_ r19 ∧ Below w.heap.size w w' := by
  have hu68 := Try.underlying68
  have HB := Aside0.mk (Below.refl w.heap.size w)
  have H : ((impl_sizeOk.f a0 a1).bind fun t232 => (if t232 = true then ((impl_newScreen.f k a0 a1).bind fun bt233 => (some (0, bt233.1, bt233.2.1, bt233.2.2.1, bt233.2.2.2.1, bt233.2.2.2.2.1, bt233.2.2.2.2.2.1, bt233.2.2.2.2.2.2.1, bt233.2.2.2.2.2.2.2.1, bt233.2.2.2.2.2.2.2.2.1, bt233.2.2.2.2.2.2.2.2.2.1, bt233.2.2.2.2.2.2.2.2.2.2.1, bt233.2.2.2.2.2.2.2.2.2.2.2.1, bt233.2.2.2.2.2.2.2.2.2.2.2.2.1, bt233.2.2.2.2.2.2.2.2.2.2.2.2.2.1, bt233.2.2.2.2.2.2.2.2.2.2.2.2.2.2.1, bt233.2.2.2.2.2.2.2.2.2.2.2.2.2.2.2.1, bt233.2.2.2.2.2.2.2.2.2.2.2.2.2.2.2.2.1, bt233.2.2.2.2.2.2.2.2.2.2.2.2.2.2.2.2.2.1, bt233.2.2.2.2.2.2.2.2.2.2.2.2.2.2.2.2.2.2.1, bt233.2.2.2.2.2.2.2.2.2.2.2.2.2.2.2.2.2.2.2))) else (some (3, 0, 0, ([] : List (S107)), ([] : List (S107)), 0, 0, false, 0, 0, 0, false, false, false, ([] : List Bool), 0, 0, 0, ([] : List Int), 0, 0)))) = some (r1, r2, r3, r4, r5, r6, r7, r8, r9, r10, r11, r12, r13, r14, r15, r16, r17, r18, r19, r20, r21) := h
  clear h
  replace H := Option.bind_eq_some_iff.mp H
  obtain ⟨t232, A30, H⟩ := H
  replace H : (if t232 = true then ((impl_newScreen.f k a0 a1).bind fun bt233 => (some (0, bt233.1, bt233.2.1, bt233.2.2.1, bt233.2.2.2.1, bt233.2.2.2.2.1, bt233.2.2.2.2.2.1, bt233.2.2.2.2.2.2.1, bt233.2.2.2.2.2.2.2.1, bt233.2.2.2.2.2.2.2.2.1, bt233.2.2.2.2.2.2.2.2.2.1, bt233.2.2.2.2.2.2.2.2.2.2.1, bt233.2.2.2.2.2.2.2.2.2.2.2.1, bt233.2.2.2.2.2.2.2.2.2.2.2.2.1, bt233.2.2.2.2.2.2.2.2.2.2.2.2.2.1, bt233.2.2.2.2.2.2.2.2.2.2.2.2.2.2.1, bt233.2.2.2.2.2.2.2.2.2.2.2.2.2.2.2.1, bt233.2.2.2.2.2.2.2.2.2.2.2.2.2.2.2.2.1, bt233.2.2.2.2.2.2.2.2.2.2.2.2.2.2.2.2.2.1, bt233.2.2.2.2.2.2.2.2.2.2.2.2.2.2.2.2.2.2.1, bt233.2.2.2.2.2.2.2.2.2.2.2.2.2.2.2.2.2.2.2))) else (some (3, 0, 0, ([] : List (S107)), ([] : List (S107)), 0, 0, false, 0, 0, 0, false, false, false, ([] : List Bool), 0, 0, 0, ([] : List Int), 0, 0))) = some (r1, r2, r3, r4, r5, r6, r7, r8, r9, r10, r11, r12, r13, r14, r15, r16, r17, r18, r19, r20, r21) := H
  have A3 := Aside0.mk A30
  clear A30
  by_cases c4 : t232 = true
  · subst c4
    have H1 : ((impl_newScreen.f k a0 a1).bind fun bt233 => (some (0, bt233.1, bt233.2.1, bt233.2.2.1, bt233.2.2.2.1, bt233.2.2.2.2.1, bt233.2.2.2.2.2.1, bt233.2.2.2.2.2.2.1, bt233.2.2.2.2.2.2.2.1, bt233.2.2.2.2.2.2.2.2.1, bt233.2.2.2.2.2.2.2.2.2.1, bt233.2.2.2.2.2.2.2.2.2.2.1, bt233.2.2.2.2.2.2.2.2.2.2.2.1, bt233.2.2.2.2.2.2.2.2.2.2.2.2.1, bt233.2.2.2.2.2.2.2.2.2.2.2.2.2.1, bt233.2.2.2.2.2.2.2.2.2.2.2.2.2.2.1, bt233.2.2.2.2.2.2.2.2.2.2.2.2.2.2.2.1, bt233.2.2.2.2.2.2.2.2.2.2.2.2.2.2.2.2.1, bt233.2.2.2.2.2.2.2.2.2.2.2.2.2.2.2.2.2.1, bt233.2.2.2.2.2.2.2.2.2.2.2.2.2.2.2.2.2.2.1, bt233.2.2.2.2.2.2.2.2.2.2.2.2.2.2.2.2.2.2.2))) = some (r1, r2, r3, r4, r5, r6, r7, r8, r9, r10, r11, r12, r13, r14, r15, r16, r17, r18, r19, r20, r21) := by rw [if_pos rfl] at H; exact H
    clear H
    have H := H1
    clear H1
    replace H := Option.bind_eq_some_iff.mp H
    obtain ⟨⟨t233, t234, t235, t238, t241, t242, t243, t244, t245, t246, t247, t248, t249, t250, t253, t254, t255, t256, t259, t260⟩, A50, H⟩ := H
    replace H : (some (0, t233, t234, t235, t238, t241, t242, t243, t244, t245, t246, t247, t248, t249, t250, t253, t254, t255, t256, t259, t260)) = some (r1, r2, r3, r4, r5, r6, r7, r8, r9, r10, r11, r12, r13, r14, r15, r16, r17, r18, r19, r20, r21) := H
    have A5 := Aside0.mk A50
    clear A50
    simp only [Option.some.injEq, Prod.mk.injEq] at H
    obtain ⟨rfl, rfl, rfl, rfl, rfl, rfl, rfl, rfl, rfl, rfl, rfl, rfl, rfl, rfl, rfl, rfl, rfl, rfl, rfl, rfl, rfl⟩ := H
    go_enter Try.func43, Try.ntmps43
    go_wp2_with (first | ((with_reducible refine gate_dst (N := 4) rfl ?_); refine box_event ?hg (N := 4) ?hd (cs := #[.int .i64 0, .int .i64 0, .int .i64 0, .slice none 0 0, .slice none 0 0, .int .i64 0, .int .i64 0, .bool false, .int .i64 0, .int .i64 0, .int .i64 0, .bool false, .bool false, .bool false, .slice none 0 0, .int .i64 0, .int .i64 0, .int .i64 0, .slice none 0 0, .int .i64 0, .int .i64 0]) (t := 68) ?hr ?_; (case hd => rfl); (case hg => rfl); (case hr => first | (go_simp; done) | (go_simp; rfl)); intro gb231 hg w6 hbox hb; have n0_ := Aside0.mk (below_step (by repeat (first | (with_reducible first | exact HB.out | apply below_alloc | apply pw_below_drewN | apply below_drew1) | exact HB.out)) hb); have n1_ := Aside0.mk (hbox); have n2_ := Aside0.mk ((by rw [hg]; exact (below_size (by repeat (first | (with_reducible first | exact HB.out | apply below_alloc | apply pw_below_drewN | apply below_drew1) | exact HB.out))) : w.heap.size ≤ gb231)); have n3_ := Aside0.mk ((by rw [hg]; exact (below_size (by repeat (first | (with_reducible first | exact HB.out | apply below_alloc | apply pw_below_drewN | apply below_drew1) | exact HB.out))) : w.heap.size ≤ gb231)); clear HB; have HB := n0_; have BK231 := n1_; have GW231 := n2_; have GE231 := n3_; clear n0_ n1_ n2_ n3_; clear hb hbox hg) | ((with_reducible refine gate_callee (f := 76) rfl ?_); refine goesL_ (some 7) rfl rfl Try.func76 (by kernel_rfl) rfl #[.int .i64 a0, .int .i64 a1] rfl (by (try simp only [List.map_toArray, List.map_cons, List.map_nil]); first | done | rfl | (simp only [List.length_drop, List.length_take]; rfl)) ?_; (with_reducible refine (impl_sizeOk.calls a0 a1 true _ A3.out).mono ?_); rintro e w' ⟨rfl, ⟨nd, rfl⟩⟩; refine ⟨_, rfl, ?_⟩; (try (rw [drewN_self w6]; generalize hq_ : World.drewN w6 _ = w6; have n0_ : Aside0 (w6.heap[gb231]? = some (.cells #[.int .i64 0, .int .i64 0, .int .i64 0, .slice none 0 0, .slice none 0 0, .int .i64 0, .int .i64 0, .bool false, .int .i64 0, .int .i64 0, .int .i64 0, .bool false, .bool false, .bool false, .slice none 0 0, .int .i64 0, .int .i64 0, .int .i64 0, .slice none 0 0, .int .i64 0, .int .i64 0] 68 (0, 0))) := ⟨by rw [← hq_]; exact (by (with_reducible repeat (first | refine blk_drewN ?_ _ | refine blk_drew ?_ | refine blk_alloc ?_ _)); exact BK231.out)⟩; have n1_ : Aside0 (Below w.heap.size w w6) := ⟨by rw [← hq_]; exact (by repeat (first | (with_reducible first | exact HB.out | apply below_alloc | apply pw_below_drewN | apply below_drew1 | refine below_set ?_ GE231.out) | exact HB.out))⟩; clear BK231 HB hq_; have BK231 := n0_; have HB := n1_; clear n0_ n1_))) | ((with_reducible refine gate_callee (f := 92) rfl ?_); refine goesL_ (some 12) rfl rfl Try.func92 (by kernel_rfl) rfl #[.int .i64 a0, .int .i64 a1] rfl (by (try simp only [List.map_toArray, List.map_cons, List.map_nil]); first | done | rfl | (simp only [List.length_drop, List.length_take]; rfl)) ?_; (with_reducible refine (impl_newScreen.calls k a0 a1 t233 t234 t235 t238 t241 t242 t243 t244 t245 t246 t247 t248 t249 t250 t253 t254 t255 t256 t259 t260 _ A5.out).mono ?_); rintro e w7 ⟨v236, v239, v251, v257, rfl, ho0, ho1, ho2, ho3, hb⟩; refine ⟨_, rfl, ?_⟩; have n0_ := Aside0.mk (Kd.R_lower ho0 (below_size (by repeat (first | (with_reducible first | exact HB.out | apply below_alloc | apply pw_below_drewN | apply below_drew1 | refine below_set ?_ GE231.out) | exact HB.out)))); have n1_ := Aside0.mk (Kd.R_lower ho1 (below_size (by repeat (first | (with_reducible first | exact HB.out | apply below_alloc | apply pw_below_drewN | apply below_drew1 | refine below_set ?_ GE231.out) | exact HB.out)))); have n2_ := Aside0.mk (Kd.R_lower ho2 (below_size (by repeat (first | (with_reducible first | exact HB.out | apply below_alloc | apply pw_below_drewN | apply below_drew1 | refine below_set ?_ GE231.out) | exact HB.out)))); have n3_ := Aside0.mk (Kd.R_lower ho3 (below_size (by repeat (first | (with_reducible first | exact HB.out | apply below_alloc | apply pw_below_drewN | apply below_drew1 | refine below_set ?_ GE231.out) | exact HB.out)))); have n4_ := Aside0.mk (blk_below (g := gb231) (o := .cells #[.int .i64 0, .int .i64 0, .int .i64 0, .slice none 0 0, .slice none 0 0, .int .i64 0, .int .i64 0, .bool false, .int .i64 0, .int .i64 0, .int .i64 0, .bool false, .bool false, .bool false, .slice none 0 0, .int .i64 0, .int .i64 0, .int .i64 0, .slice none 0 0, .int .i64 0, .int .i64 0] 68 (0, 0)) (by (with_reducible repeat (first | refine blk_drewN ?_ _ | refine blk_drew ?_ | refine blk_alloc ?_ _)); exact BK231.out) hb); have n5_ := Aside0.mk (below_step (by repeat (first | (with_reducible first | exact HB.out | apply below_alloc | apply pw_below_drewN | apply below_drew1 | refine below_set ?_ GE231.out) | exact HB.out)) hb); clear BK231; clear HB; have HO237 := n0_; have HO240 := n1_; have HO252 := n2_; have HO258 := n3_; have BK231 := n4_; have HB := n5_; clear n0_ n1_ n2_ n3_ n4_ n5_; (try clear hb); (try clear hb2); (try clear hk); (try clear hi); (try clear ho0); (try clear ho1); (try clear ho2); (try clear ho3); obtain ⟨Ao8, co8, eo8⟩ := Kd.R_slice HO258.out; subst eo8; obtain ⟨Ao9, co9, eo9⟩ := Kd.R_slice HO252.out; subst eo9; obtain ⟨Ao10, co10, eo10⟩ := Kd.R_slice HO240.out; subst eo10; obtain ⟨Ao11, co11, eo11⟩ := Kd.R_slice HO237.out; subst eo11; have hcz12_0 : w7.cell? ⟨gb231, 0, none⟩ = some (.int .i64 0) := (blk_cell BK231.out 0).trans rfl; have hcz12_1 : w7.cell? ⟨gb231, 1, none⟩ = some (.int .i64 0) := (blk_cell BK231.out 1).trans rfl; have hcz12_2 : w7.cell? ⟨gb231, 2, none⟩ = some (.int .i64 0) := (blk_cell BK231.out 2).trans rfl; have hcz12_3 : w7.cell? ⟨gb231, 3, none⟩ = some (.slice none 0 0) := (blk_cell BK231.out 3).trans rfl; have hcz12_4 : w7.cell? ⟨gb231, 4, none⟩ = some (.slice none 0 0) := (blk_cell BK231.out 4).trans rfl; have hcz12_5 : w7.cell? ⟨gb231, 5, none⟩ = some (.int .i64 0) := (blk_cell BK231.out 5).trans rfl; have hcz12_6 : w7.cell? ⟨gb231, 6, none⟩ = some (.int .i64 0) := (blk_cell BK231.out 6).trans rfl; have hcz12_7 : w7.cell? ⟨gb231, 7, none⟩ = some (.bool false) := (blk_cell BK231.out 7).trans rfl; have hcz12_8 : w7.cell? ⟨gb231, 8, none⟩ = some (.int .i64 0) := (blk_cell BK231.out 8).trans rfl; have hcz12_9 : w7.cell? ⟨gb231, 9, none⟩ = some (.int .i64 0) := (blk_cell BK231.out 9).trans rfl; have hcz12_10 : w7.cell? ⟨gb231, 10, none⟩ = some (.int .i64 0) := (blk_cell BK231.out 10).trans rfl; have hcz12_11 : w7.cell? ⟨gb231, 11, none⟩ = some (.bool false) := (blk_cell BK231.out 11).trans rfl; have hcz12_12 : w7.cell? ⟨gb231, 12, none⟩ = some (.bool false) := (blk_cell BK231.out 12).trans rfl; have hcz12_13 : w7.cell? ⟨gb231, 13, none⟩ = some (.bool false) := (blk_cell BK231.out 13).trans rfl; have hcz12_14 : w7.cell? ⟨gb231, 14, none⟩ = some (.slice none 0 0) := (blk_cell BK231.out 14).trans rfl; have hcz12_15 : w7.cell? ⟨gb231, 15, none⟩ = some (.int .i64 0) := (blk_cell BK231.out 15).trans rfl; have hcz12_16 : w7.cell? ⟨gb231, 16, none⟩ = some (.int .i64 0) := (blk_cell BK231.out 16).trans rfl; have hcz12_17 : w7.cell? ⟨gb231, 17, none⟩ = some (.int .i64 0) := (blk_cell BK231.out 17).trans rfl; have hcz12_18 : w7.cell? ⟨gb231, 18, none⟩ = some (.slice none 0 0) := (blk_cell BK231.out 18).trans rfl; have hcz12_19 : w7.cell? ⟨gb231, 19, none⟩ = some (.int .i64 0) := (blk_cell BK231.out 19).trans rfl; have hcz12_20 : w7.cell? ⟨gb231, 20, none⟩ = some (.int .i64 0) := (blk_cell BK231.out 20).trans rfl; have hfz12_0 := blk_frozen BK231.out 0; have hfz12_1 := blk_frozen BK231.out 1; have hfz12_2 := blk_frozen BK231.out 2; have hfz12_3 := blk_frozen BK231.out 3; have hfz12_4 := blk_frozen BK231.out 4; have hfz12_5 := blk_frozen BK231.out 5; have hfz12_6 := blk_frozen BK231.out 6; have hfz12_7 := blk_frozen BK231.out 7; have hfz12_8 := blk_frozen BK231.out 8; have hfz12_9 := blk_frozen BK231.out 9; have hfz12_10 := blk_frozen BK231.out 10; have hfz12_11 := blk_frozen BK231.out 11; have hfz12_12 := blk_frozen BK231.out 12; have hfz12_13 := blk_frozen BK231.out 13; have hfz12_14 := blk_frozen BK231.out 14; have hfz12_15 := blk_frozen BK231.out 15; have hfz12_16 := blk_frozen BK231.out 16; have hfz12_17 := blk_frozen BK231.out 17; have hfz12_18 := blk_frozen BK231.out 18; have hfz12_19 := blk_frozen BK231.out 19; have hfz12_20 := blk_frozen BK231.out 20) | ((with_reducible refine gate_store (t := 68) (p := 4) rfl ?_); refine Go.Proofs.YtagipnepckgdfaaCells.store_whole (ty := 68) (x := .tmp 4) (y := ?vo_w13) (g := gb231) (cells := [.int .i64 0, .int .i64 t233, .int .i64 t234, .slice Ao11 t235.length co11, .slice Ao10 t238.length co10, .int .i64 t241, .int .i64 t242, .bool t243, .int .i64 t244, .int .i64 t245, .int .i64 t246, .bool t247, .bool t248, .bool t249, .slice Ao9 t250.length co9, .int .i64 t253, .int .i64 t254, .int .i64 t255, .slice Ao8 t256.length co8, .int .i64 t259, .int .i64 t260]) (t := 68) (old := [.int .i64 0, .int .i64 0, .int .i64 0, .slice none 0 0, .slice none 0 0, .int .i64 0, .int .i64 0, .bool false, .int .i64 0, .int .i64 0, .int .i64 0, .bool false, .bool false, .bool false, .slice none 0 0, .int .i64 0, .int .i64 0, .int .i64 0, .slice none 0 0, .int .i64 0, .int .i64 0]) ?hg ?ho ?hx ?hy ?hn ?hb ?hi rfl rfl ?_; (case ho => rfl); (case hg => rfl); (case hn => rfl); (case hx => rfl); (case hy => first | rfl | (go_simp; done) | (simp [*]; done)); (case hb => exact (by (with_reducible repeat (first | refine blk_drewN ?_ _ | refine blk_drew ?_ | refine blk_alloc ?_ _)); exact BK231.out)); (case hi => kernel_rfl); intro w13 hob_ hbk hfar hbel; have n0_ : Aside0 (Kd.R k107 107 w13 w.heap.size (fun k_ => some k_ ≠ (.slice Ao10 t238.length co10 : Value).ownBlock) (.slice Ao11 t235.length co11) t235) := ⟨Go.Proofs.YtagipnepckgdfaaCells.R_whole (by (with_reducible repeat (first | apply Kd.R_alloc | apply Kd.R_drewN | apply Kd.R_drew)); exact HO237.out) hob_ (by decide) hfar⟩; have n1_ : Aside0 (Kd.R k107 107 w13 w.heap.size (fun k_ => some k_ ≠ (.slice Ao11 t235.length co11 : Value).ownBlock) (.slice Ao10 t238.length co10) t238) := ⟨Go.Proofs.YtagipnepckgdfaaCells.R_whole (by (with_reducible repeat (first | apply Kd.R_alloc | apply Kd.R_drewN | apply Kd.R_drew)); exact HO240.out) hob_ (by decide) hfar⟩; have n2_ : Aside0 (Kd.R Kd.bool 4 w13 w.heap.size (fun _ => True) (.slice Ao9 t250.length co9) t250) := ⟨Go.Proofs.YtagipnepckgdfaaCells.R_whole (by (with_reducible repeat (first | apply Kd.R_alloc | apply Kd.R_drewN | apply Kd.R_drew)); exact HO252.out) hob_ (by decide) hfar⟩; have n3_ : Aside0 (Kd.R (Kd.int .i64) 2 w13 w.heap.size (fun _ => True) (.slice Ao8 t256.length co8) t256) := ⟨Go.Proofs.YtagipnepckgdfaaCells.R_whole (by (with_reducible repeat (first | apply Kd.R_alloc | apply Kd.R_drewN | apply Kd.R_drew)); exact HO258.out) hob_ (by decide) hfar⟩; have n4_ : Aside0 (w13.heap[gb231]? = some (.cells #[.int .i64 0, .int .i64 t233, .int .i64 t234, .slice Ao11 t235.length co11, .slice Ao10 t238.length co10, .int .i64 t241, .int .i64 t242, .bool t243, .int .i64 t244, .int .i64 t245, .int .i64 t246, .bool t247, .bool t248, .bool t249, .slice Ao9 t250.length co9, .int .i64 t253, .int .i64 t254, .int .i64 t255, .slice Ao8 t256.length co8, .int .i64 t259, .int .i64 t260] 68 (0, 0))) := ⟨hbk⟩; have n5_ : Aside0 (Below w.heap.size w w13) := ⟨hbel _ _ GE231.out (by repeat (first | (with_reducible first | exact HB.out | apply below_alloc | apply pw_below_drewN | apply below_drew1 | refine below_set ?_ GE231.out) | exact HB.out))⟩; clear hob_ hbk hfar hbel; clear HO237; clear HO240; clear HO252; clear HO258; clear BK231; clear HB; have HO237 := n0_; have HO240 := n1_; have HO252 := n2_; have HO258 := n3_; have BK231 := n4_; have HB := n5_; clear n0_ n1_ n2_ n3_ n4_ n5_))
    refine bodyPost_ret (results_cell_row rfl _ _ gb231 68 #[.int .i64 0, .int .i64 t233, .int .i64 t234, .slice Ao11 t235.length co11, .slice Ao10 t238.length co10, .int .i64 t241, .int .i64 t242, .bool t243, .int .i64 t244, .int .i64 t245, .int .i64 t246, .bool t247, .bool t248, .bool t249, .slice Ao9 t250.length co9, .int .i64 t253, .int .i64 t254, .int .i64 t255, .slice Ao8 t256.length co8, .int .i64 t259, .int .i64 t260] (0, 0) _ rfl (by (with_reducible repeat (first | refine blk_drewN ?_ _ | refine blk_drew ?_ | refine blk_alloc ?_ _)); exact BK231.out) Try.underlying68 rfl (by kernel_rfl)) rfl ?_
    exact ⟨_, _, _, _, by first | rfl | (simp [errW_none, errW_some] <;> rfl) | (simp [*, errW_none, errW_some] <;> rfl), by (with_reducible repeat (first | apply Kd.R_alloc | apply Kd.R_drewN | apply Kd.R_drew)); exact HO237.out, by (with_reducible repeat (first | apply Kd.R_alloc | apply Kd.R_drewN | apply Kd.R_drew)); exact HO240.out, by (with_reducible repeat (first | apply Kd.R_alloc | apply Kd.R_drewN | apply Kd.R_drew)); exact HO252.out, by (with_reducible repeat (first | apply Kd.R_alloc | apply Kd.R_drewN | apply Kd.R_drew)); exact HO258.out, by repeat (first | (with_reducible first | exact HB.out | apply below_alloc | apply pw_below_drewN | apply below_drew1 | refine below_set ?_ GE231.out) | exact HB.out)⟩
  · replace c4 := Bool.eq_false_iff.mpr c4
    subst c4
    have H1 : (some (3, 0, 0, ([] : List (S107)), ([] : List (S107)), 0, 0, false, 0, 0, 0, false, false, false, ([] : List Bool), 0, 0, 0, ([] : List Int), 0, 0)) = some (r1, r2, r3, r4, r5, r6, r7, r8, r9, r10, r11, r12, r13, r14, r15, r16, r17, r18, r19, r20, r21) := by rw [if_neg (show ¬ (false = true) by decide)] at H; exact H
    clear H
    have H := H1
    clear H1
    simp only [Option.some.injEq, Prod.mk.injEq] at H
    obtain ⟨rfl, rfl, rfl, rfl, rfl, rfl, rfl, rfl, rfl, rfl, rfl, rfl, rfl, rfl, rfl, rfl, rfl, rfl, rfl, rfl, rfl⟩ := H
    go_enter Try.func43, Try.ntmps43
    go_wp2_with (first | ((with_reducible refine gate_dst (N := 4) rfl ?_); refine box_event ?hg (N := 4) ?hd (cs := #[.int .i64 0, .int .i64 0, .int .i64 0, .slice none 0 0, .slice none 0 0, .int .i64 0, .int .i64 0, .bool false, .int .i64 0, .int .i64 0, .int .i64 0, .bool false, .bool false, .bool false, .slice none 0 0, .int .i64 0, .int .i64 0, .int .i64 0, .slice none 0 0, .int .i64 0, .int .i64 0]) (t := 68) ?hr ?_; (case hd => rfl); (case hg => rfl); (case hr => first | (go_simp; done) | (go_simp; rfl)); intro gb231 hg w14 hbox hb; have n0_ := Aside0.mk (below_step (by repeat (first | (with_reducible first | exact HB.out | apply below_alloc | apply pw_below_drewN | apply below_drew1) | exact HB.out)) hb); have n1_ := Aside0.mk (hbox); have n2_ := Aside0.mk ((by rw [hg]; exact (below_size (by repeat (first | (with_reducible first | exact HB.out | apply below_alloc | apply pw_below_drewN | apply below_drew1) | exact HB.out))) : w.heap.size ≤ gb231)); have n3_ := Aside0.mk ((by rw [hg]; exact (below_size (by repeat (first | (with_reducible first | exact HB.out | apply below_alloc | apply pw_below_drewN | apply below_drew1) | exact HB.out))) : w.heap.size ≤ gb231)); clear HB; have HB := n0_; have BK231 := n1_; have GW231 := n2_; have GE231 := n3_; clear n0_ n1_ n2_ n3_; clear hb hbox hg) | ((with_reducible refine gate_callee (f := 76) rfl ?_); refine goesL_ (some 7) rfl rfl Try.func76 (by kernel_rfl) rfl #[.int .i64 a0, .int .i64 a1] rfl (by (try simp only [List.map_toArray, List.map_cons, List.map_nil]); first | done | rfl | (simp only [List.length_drop, List.length_take]; rfl)) ?_; (with_reducible refine (impl_sizeOk.calls a0 a1 false _ A3.out).mono ?_); rintro e w' ⟨rfl, ⟨nd, rfl⟩⟩; refine ⟨_, rfl, ?_⟩; (try (rw [drewN_self w14]; generalize hq_ : World.drewN w14 _ = w14; have n0_ : Aside0 (w14.heap[gb231]? = some (.cells #[.int .i64 0, .int .i64 0, .int .i64 0, .slice none 0 0, .slice none 0 0, .int .i64 0, .int .i64 0, .bool false, .int .i64 0, .int .i64 0, .int .i64 0, .bool false, .bool false, .bool false, .slice none 0 0, .int .i64 0, .int .i64 0, .int .i64 0, .slice none 0 0, .int .i64 0, .int .i64 0] 68 (0, 0))) := ⟨by rw [← hq_]; exact (by (with_reducible repeat (first | refine blk_drewN ?_ _ | refine blk_drew ?_ | refine blk_alloc ?_ _)); exact BK231.out)⟩; have n1_ : Aside0 (Below w.heap.size w w14) := ⟨by rw [← hq_]; exact (by repeat (first | (with_reducible first | exact HB.out | apply below_alloc | apply pw_below_drewN | apply below_drew1 | refine below_set ?_ GE231.out) | exact HB.out))⟩; clear BK231 HB hq_; have BK231 := n0_; have HB := n1_; clear n0_ n1_)); have hcz15_0 : w14.cell? ⟨gb231, 0, none⟩ = some (.int .i64 0) := (blk_cell BK231.out 0).trans rfl; have hcz15_1 : w14.cell? ⟨gb231, 1, none⟩ = some (.int .i64 0) := (blk_cell BK231.out 1).trans rfl; have hcz15_2 : w14.cell? ⟨gb231, 2, none⟩ = some (.int .i64 0) := (blk_cell BK231.out 2).trans rfl; have hcz15_3 : w14.cell? ⟨gb231, 3, none⟩ = some (.slice none 0 0) := (blk_cell BK231.out 3).trans rfl; have hcz15_4 : w14.cell? ⟨gb231, 4, none⟩ = some (.slice none 0 0) := (blk_cell BK231.out 4).trans rfl; have hcz15_5 : w14.cell? ⟨gb231, 5, none⟩ = some (.int .i64 0) := (blk_cell BK231.out 5).trans rfl; have hcz15_6 : w14.cell? ⟨gb231, 6, none⟩ = some (.int .i64 0) := (blk_cell BK231.out 6).trans rfl; have hcz15_7 : w14.cell? ⟨gb231, 7, none⟩ = some (.bool false) := (blk_cell BK231.out 7).trans rfl; have hcz15_8 : w14.cell? ⟨gb231, 8, none⟩ = some (.int .i64 0) := (blk_cell BK231.out 8).trans rfl; have hcz15_9 : w14.cell? ⟨gb231, 9, none⟩ = some (.int .i64 0) := (blk_cell BK231.out 9).trans rfl; have hcz15_10 : w14.cell? ⟨gb231, 10, none⟩ = some (.int .i64 0) := (blk_cell BK231.out 10).trans rfl; have hcz15_11 : w14.cell? ⟨gb231, 11, none⟩ = some (.bool false) := (blk_cell BK231.out 11).trans rfl; have hcz15_12 : w14.cell? ⟨gb231, 12, none⟩ = some (.bool false) := (blk_cell BK231.out 12).trans rfl; have hcz15_13 : w14.cell? ⟨gb231, 13, none⟩ = some (.bool false) := (blk_cell BK231.out 13).trans rfl; have hcz15_14 : w14.cell? ⟨gb231, 14, none⟩ = some (.slice none 0 0) := (blk_cell BK231.out 14).trans rfl; have hcz15_15 : w14.cell? ⟨gb231, 15, none⟩ = some (.int .i64 0) := (blk_cell BK231.out 15).trans rfl; have hcz15_16 : w14.cell? ⟨gb231, 16, none⟩ = some (.int .i64 0) := (blk_cell BK231.out 16).trans rfl; have hcz15_17 : w14.cell? ⟨gb231, 17, none⟩ = some (.int .i64 0) := (blk_cell BK231.out 17).trans rfl; have hcz15_18 : w14.cell? ⟨gb231, 18, none⟩ = some (.slice none 0 0) := (blk_cell BK231.out 18).trans rfl; have hcz15_19 : w14.cell? ⟨gb231, 19, none⟩ = some (.int .i64 0) := (blk_cell BK231.out 19).trans rfl; have hcz15_20 : w14.cell? ⟨gb231, 20, none⟩ = some (.int .i64 0) := (blk_cell BK231.out 20).trans rfl; have hfz15_0 := blk_frozen BK231.out 0; have hfz15_1 := blk_frozen BK231.out 1; have hfz15_2 := blk_frozen BK231.out 2; have hfz15_3 := blk_frozen BK231.out 3; have hfz15_4 := blk_frozen BK231.out 4; have hfz15_5 := blk_frozen BK231.out 5; have hfz15_6 := blk_frozen BK231.out 6; have hfz15_7 := blk_frozen BK231.out 7; have hfz15_8 := blk_frozen BK231.out 8; have hfz15_9 := blk_frozen BK231.out 9; have hfz15_10 := blk_frozen BK231.out 10; have hfz15_11 := blk_frozen BK231.out 11; have hfz15_12 := blk_frozen BK231.out 12; have hfz15_13 := blk_frozen BK231.out 13; have hfz15_14 := blk_frozen BK231.out 14; have hfz15_15 := blk_frozen BK231.out 15; have hfz15_16 := blk_frozen BK231.out 16; have hfz15_17 := blk_frozen BK231.out 17; have hfz15_18 := blk_frozen BK231.out 18; have hfz15_19 := blk_frozen BK231.out 19; have hfz15_20 := blk_frozen BK231.out 20) | ((with_reducible refine gate_store (t := 68) (p := 4) rfl ?_); refine Go.Proofs.YtagipnepckgdfaaCells.store_whole (ty := 68) (x := .tmp 4) (y := ?vo_w16) (g := gb231) (cells := [.int .i64 3, .int .i64 0, .int .i64 0, .slice none 0 0, .slice none 0 0, .int .i64 0, .int .i64 0, .bool false, .int .i64 0, .int .i64 0, .int .i64 0, .bool false, .bool false, .bool false, .slice none 0 0, .int .i64 0, .int .i64 0, .int .i64 0, .slice none 0 0, .int .i64 0, .int .i64 0]) (t := 68) (old := [.int .i64 0, .int .i64 0, .int .i64 0, .slice none 0 0, .slice none 0 0, .int .i64 0, .int .i64 0, .bool false, .int .i64 0, .int .i64 0, .int .i64 0, .bool false, .bool false, .bool false, .slice none 0 0, .int .i64 0, .int .i64 0, .int .i64 0, .slice none 0 0, .int .i64 0, .int .i64 0]) ?hg ?ho ?hx ?hy ?hn ?hb ?hi rfl rfl ?_; (case ho => rfl); (case hg => rfl); (case hn => rfl); (case hx => rfl); (case hy => first | rfl | (go_simp; done) | (simp [*]; done)); (case hb => exact (by (with_reducible repeat (first | refine blk_drewN ?_ _ | refine blk_drew ?_ | refine blk_alloc ?_ _)); exact BK231.out)); (case hi => kernel_rfl); intro w16 hob_ hbk hfar hbel; have n0_ : Aside0 (w16.heap[gb231]? = some (.cells #[.int .i64 3, .int .i64 0, .int .i64 0, .slice none 0 0, .slice none 0 0, .int .i64 0, .int .i64 0, .bool false, .int .i64 0, .int .i64 0, .int .i64 0, .bool false, .bool false, .bool false, .slice none 0 0, .int .i64 0, .int .i64 0, .int .i64 0, .slice none 0 0, .int .i64 0, .int .i64 0] 68 (0, 0))) := ⟨hbk⟩; have n1_ : Aside0 (Below w.heap.size w w16) := ⟨hbel _ _ GE231.out (by repeat (first | (with_reducible first | exact HB.out | apply below_alloc | apply pw_below_drewN | apply below_drew1 | refine below_set ?_ GE231.out) | exact HB.out))⟩; clear hob_ hbk hfar hbel; clear BK231; clear HB; have BK231 := n0_; have HB := n1_; clear n0_ n1_))
    refine bodyPost_ret (results_cell_row rfl _ _ gb231 68 #[.int .i64 3, .int .i64 0, .int .i64 0, .slice none 0 0, .slice none 0 0, .int .i64 0, .int .i64 0, .bool false, .int .i64 0, .int .i64 0, .int .i64 0, .bool false, .bool false, .bool false, .slice none 0 0, .int .i64 0, .int .i64 0, .int .i64 0, .slice none 0 0, .int .i64 0, .int .i64 0] (0, 0) _ rfl (by (with_reducible repeat (first | refine blk_drewN ?_ _ | refine blk_drew ?_ | refine blk_alloc ?_ _)); exact BK231.out) Try.underlying68 rfl (by kernel_rfl)) rfl ?_
    exact ⟨_, _, _, _, by first | rfl | (simp [errW_none, errW_some] <;> rfl) | (simp [*, errW_none, errW_some] <;> rfl), by first | exact Kd.R_nil _ _ _ _ _ | exact Kd.N_nil _ _ _ _ _ | exact Kd.V_nil _ _ _ _ _ | exact Kd.Q_nil _ _ _ _ _ | exact Kd.S_nil _ _ _ _ _, by first | exact Kd.R_nil _ _ _ _ _ | exact Kd.N_nil _ _ _ _ _ | exact Kd.V_nil _ _ _ _ _ | exact Kd.Q_nil _ _ _ _ _ | exact Kd.S_nil _ _ _ _ _, by first | exact Kd.R_nil _ _ _ _ _ | exact Kd.N_nil _ _ _ _ _ | exact Kd.V_nil _ _ _ _ _ | exact Kd.Q_nil _ _ _ _ _ | exact Kd.S_nil _ _ _ _ _, by first | exact Kd.R_nil _ _ _ _ _ | exact Kd.N_nil _ _ _ _ _ | exact Kd.V_nil _ _ _ _ _ | exact Kd.Q_nil _ _ _ _ _ | exact Kd.S_nil _ _ _ _ _, by repeat (first | (with_reducible first | exact HB.out | apply below_alloc | apply pw_below_drewN | apply below_drew1 | refine below_set ?_ GE231.out) | exact HB.out)⟩

/-! ### laws_eqCell: function 111 -/
def laws_eqCell.f (a0_0 : Int) (a0_1 : Int) (a1_0 : Int) (a1_1 : Int) : Option (Bool) := if a0_0 = a1_0 then (if a0_1 = a1_1 then (some true) else (some false)) else (some false)
set_option maxHeartbeats 8000000 in
set_option maxRecDepth 100000 in
theorem laws_eqCell.calls (a0_0 : Int) (a0_1 : Int) (a1_0 : Int) (a1_1 : Int) (w : World) (h : laws_eqCell.f a0_0 a0_1 a1_0 a1_1 = some true) :
    Calls Try.prog 111 #[.agg #[.int .i64 a0_0, .int .i64 a0_1], .agg #[.int .i64 a1_0, .int .i64 a1_1]] w fun e w' => e = .returned (.bool true) ∧ Below w.heap.size w w' := by
  have hu107 := Try.underlying107
  have HB := Aside0.mk (Below.refl w.heap.size w)
  have H : (if a0_0 = a1_0 then (if a0_1 = a1_1 then (some true) else (some false)) else (some false)) = some true := h
  clear h
  by_cases c3 : a0_0 = a1_0
  · rw [if_pos c3] at H
    have c3b0 : (a0_0 == a1_0) = true := beq_iff_eq.mpr c3
    have c3b1 : (a0_0 != a1_0) = false := bne_eq_false_iff_eq.mpr c3
    clear c3
    by_cases c4 : a0_1 = a1_1
    · rw [if_pos c4] at H
      have c4b0 : (a0_1 == a1_1) = true := beq_iff_eq.mpr c4
      have c4b1 : (a0_1 != a1_1) = false := bne_eq_false_iff_eq.mpr c4
      clear c4
      go_enter Try.func111, Try.ntmps111
      go_wp2_with (first | ((with_reducible refine gate_dst (N := 2) rfl ?_); refine box_event ?hg (N := 2) ?hd (cs := #[.int .i64 a0_0, .int .i64 a0_1]) (t := 107) ?hr ?_; (case hd => rfl); (case hg => rfl); (case hr => first | (go_simp; done) | (go_simp; rfl)); intro gb261 hg w5 hbox hb; have n0_ := Aside0.mk (below_step (by repeat (first | (with_reducible first | exact HB.out | apply below_alloc | apply pw_below_drewN | apply below_drew1) | exact HB.out)) hb); have n1_ := Aside0.mk (hbox); have n2_ := Aside0.mk ((by rw [hg]; exact (below_size (by repeat (first | (with_reducible first | exact HB.out | apply below_alloc | apply pw_below_drewN | apply below_drew1) | exact HB.out))) : w.heap.size ≤ gb261)); have n3_ := Aside0.mk ((by rw [hg]; exact (below_size (by repeat (first | (with_reducible first | exact HB.out | apply below_alloc | apply pw_below_drewN | apply below_drew1) | exact HB.out))) : w.heap.size ≤ gb261)); clear HB; have HB := n0_; have BK261 := n1_; have GW261 := n2_; have GE261 := n3_; clear n0_ n1_ n2_ n3_; clear hb hbox hg) | ((with_reducible refine gate_dst (N := 3) rfl ?_); refine box_event ?hg (N := 3) ?hd (cs := #[.int .i64 a1_0, .int .i64 a1_1]) (t := 107) ?hr ?_; (case hd => rfl); (case hg => rfl); (case hr => first | (go_simp; done) | (go_simp; rfl)); intro gb262 hg w6 hbox hb; have n0_ := Aside0.mk (blk_below (g := gb261) (o := .cells #[.int .i64 a0_0, .int .i64 a0_1] 107 (0, 0)) (by (with_reducible repeat (first | refine blk_drewN ?_ _ | refine blk_drew ?_ | refine blk_alloc ?_ _)); exact BK261.out) hb); have n1_ := Aside0.mk (below_step (by repeat (first | (with_reducible first | exact HB.out | apply below_alloc | apply pw_below_drewN | apply below_drew1 | refine below_set ?_ GE261.out) | exact HB.out)) hb); have n2_ := Aside0.mk (hbox); have n3_ := Aside0.mk ((by rw [hg]; exact (below_size (by repeat (first | (with_reducible first | exact HB.out | apply below_alloc | apply pw_below_drewN | apply below_drew1 | refine below_set ?_ GE261.out) | exact HB.out))) : w.heap.size ≤ gb262)); have n4_ := Aside0.mk ((by rw [hg]; exact (below_size (by repeat (first | (with_reducible first | exact HB.out | apply below_alloc | apply pw_below_drewN | apply below_drew1 | refine below_set ?_ GE261.out) | exact HB.out))) : w.heap.size ≤ gb262)); have n5_ := Aside0.mk ((by rw [hg]; exact Nat.ne_of_lt (blk_lt (g := gb261) (o := .cells #[.int .i64 a0_0, .int .i64 a0_1] 107 (0, 0)) (by (with_reducible repeat (first | refine blk_drewN ?_ _ | refine blk_drew ?_ | refine blk_alloc ?_ _)); exact BK261.out)) : gb261 ≠ gb262)); have n6_ := Aside0.mk ((by rw [hg]; exact Nat.ne_of_gt (blk_lt (g := gb261) (o := .cells #[.int .i64 a0_0, .int .i64 a0_1] 107 (0, 0)) (by (with_reducible repeat (first | refine blk_drewN ?_ _ | refine blk_drew ?_ | refine blk_alloc ?_ _)); exact BK261.out)) : gb262 ≠ gb261)); clear BK261; clear HB; have BK261 := n0_; have HB := n1_; have BK262 := n2_; have GW262 := n3_; have GE262 := n4_; have NB261_262 := n5_; have NB262_261 := n6_; clear n0_ n1_ n2_ n3_ n4_ n5_ n6_; clear hb hbox hg; have hnb7 := NB261_262.out; have hnc7 := NB262_261.out; have hcz8_0 : w6.cell? ⟨gb261, 0, none⟩ = some (.int .i64 a0_0) := (blk_cell BK261.out 0).trans rfl; have hcz8_1 : w6.cell? ⟨gb261, 1, none⟩ = some (.int .i64 a0_1) := (blk_cell BK261.out 1).trans rfl; have hfz8_0 := blk_frozen BK261.out 0; have hfz8_1 := blk_frozen BK261.out 1; have hcz9_0 : w6.cell? ⟨gb262, 0, none⟩ = some (.int .i64 a1_0) := (blk_cell BK262.out 0).trans rfl; have hcz9_1 : w6.cell? ⟨gb262, 1, none⟩ = some (.int .i64 a1_1) := (blk_cell BK262.out 1).trans rfl; have hfz9_0 := blk_frozen BK262.out 0; have hfz9_1 := blk_frozen BK262.out 1))
      go_ret
      exact ⟨by first | rfl | (simp [errW_none, errW_some] <;> rfl) | (simp [*, errW_none, errW_some] <;> rfl), by repeat (first | (with_reducible first | exact HB.out | apply below_alloc | apply pw_below_drewN | apply below_drew1 | refine below_set ?_ GE261.out | refine below_set ?_ GE262.out) | exact HB.out)⟩
    · rw [if_neg c4] at H
      have c4b0 : (a0_1 == a1_1) = false := beq_eq_false_iff_ne.mpr c4
      have c4b1 : (a0_1 != a1_1) = true := bne_iff_ne.mpr c4
      exact absurd H (by simp)
  · rw [if_neg c3] at H
    have c3b0 : (a0_0 == a1_0) = false := beq_eq_false_iff_ne.mpr c3
    have c3b1 : (a0_0 != a1_0) = true := bne_iff_ne.mpr c3
    exact absurd H (by simp)

/-! ### laws_eqCellS: function 74 -/
def laws_eqCellS.l0 : Nat → List (S107) → List (S107) → Int → Option (Bool)
  | 0, _, _, _ => none
  | k + 1, x0, x1, x5 => if x5 < (x0.length : Int) then (if 0 ≤ x5 then (if x5 < (x1.length : Int) then ((laws_eqCell.f ((rd_T107 x0 x5).f0) ((rd_T107 x0 x5).f1) ((rd_T107 x1 x5).f0) ((rd_T107 x1 x5).f1)).bind fun t265 => (if t265 = true then (laws_eqCellS.l0 k x0 x1 (wrap64 (x5 + 1))) else (some false))) else (none)) else (none)) else (some true)
def laws_eqCellS.f (k : Nat) (l0 : List (S107)) (l1 : List (S107)) : Option (Bool) := if (l0.length : Int) = (l1.length : Int) then (laws_eqCellS.l0 k l0 l1 0) else (some false)
theorem laws_eqCellS.mono_l : ∀ k, (∀ y0 y1 y2, LeO (laws_eqCellS.l0 k y0 y1 y2) (laws_eqCellS.l0 (k + 1) y0 y1 y2))
  | 0 => fun _ _ _ r h => by simp [laws_eqCellS.l0] at h
  | k + 1 => by
    have ih0 := laws_eqCellS.mono_l k
    · intro y0 y1 y2
      unfold laws_eqCellS.l0
      repeat' first
      | (with_reducible exact ih0 _ _ _)
      | (with_reducible exact LeO.refl _)
      | (with_reducible exact LeO.none _)
      | (with_reducible refine LeO.ite ?_ ?_)
      | (with_reducible refine LeO.bind ?_ (fun _ => ?_))
      | exact ih0 _ _ _
      | exact LeO.none _
      | refine LeO.ite ?_ ?_
      | refine LeO.bind ?_ (fun _ => ?_)
theorem laws_eqCellS.mono : ∀ a0 a1 k, LeO (laws_eqCellS.f k a0 a1) (laws_eqCellS.f (k + 1) a0 a1) := by
  intro a0 a1 k
  have ih0 := laws_eqCellS.mono_l k
  unfold laws_eqCellS.f
  repeat' first
      | (with_reducible exact ih0 _ _ _)
      | (with_reducible exact LeO.refl _)
      | (with_reducible exact LeO.none _)
      | (with_reducible refine LeO.ite ?_ ?_)
      | (with_reducible refine LeO.bind ?_ (fun _ => ?_))
      | exact ih0 _ _ _
      | exact LeO.none _
      | refine LeO.ite ?_ ?_
      | refine LeO.bind ?_ (fun _ => ?_)
def laws_eqCellS.T6 : Bool × List (List Nat × List Nat) := (true, [([], []), ([], []), ([0, 1], [0, 1]), ([2], [2]), ([], []), ([], []), ([4, 5], [4, 5]), ([6], [6]), ([3, 7], [3, 7]), ([8], [8])])
def laws_eqCellS.B6 : List Nat := [0, 0, 3, 7, 0, 0, 48, 112, 255, 511]
theorem laws_eqCellS.tab6 : rtab .any (opsOf Try.f74 6) = laws_eqCellS.T6 := by kernel_rfl
theorem laws_eqCellS.bits6 : waitsOk laws_eqCellS.T6.2 laws_eqCellS.B6 = true := by kernel_rfl
set_option maxHeartbeats 8000000 in
set_option maxRecDepth 100000 in
theorem laws_eqCellS.calls (k : Nat) (A0 : Option Addr) (c0 : Nat) (l0 : List (S107)) (A1 : Option Addr) (c1 : Nat) (l1 : List (S107)) (w : World) (hr0 : Kd.C k107 w A0 l0.length l0) (hc0 : l0.length ≤ c0) (hr1 : Kd.C k107 w A1 l1.length l1) (hc1 : l1.length ≤ c1) (h : laws_eqCellS.f k l0 l1 = some true) :
    Calls Try.prog 74 #[.slice A0 l0.length c0, .slice A1 l1.length c1] w fun e w' => e = .returned (.bool true) ∧ Below w.heap.size w w' := by
  have hu107 := Try.underlying107
  have HR0 := Aside0.mk hr0
  have HC0 := Aside0.mk hc0
  clear hr0 hc0
  have HR1 := Aside0.mk hr1
  have HC1 := Aside0.mk hc1
  clear hr1 hc1
  have HB := Aside0.mk (Below.refl w.heap.size w)
  have H : (if (l0.length : Int) = (l1.length : Int) then (laws_eqCellS.l0 k l0 l1 0) else (some false)) = some true := h
  clear h
  by_cases c3 : (l0.length : Int) = (l1.length : Int)
  · rw [if_pos c3] at H
    have c3b0 : ((l0.length : Int) == (l1.length : Int)) = true := beq_iff_eq.mpr c3
    have c3b1 : ((l0.length : Int) != (l1.length : Int)) = false := bne_eq_false_iff_eq.mpr c3
    have c3b2 : (l0.length == l1.length) = true := by first | simpa using c3 | (simp at c3 ⊢; omega)
    clear c3
    have H' := Aside0.mk H
    clear H
    go_enter Try.func74, Try.ntmps74
    go_wp2
    go_loopg [5] k (fun kq v5 w' => ∃ (x5_1 : Int), v5 = .int .i64 x5_1 ∧ Aside0 (laws_eqCellS.l0 kq l0 l1 x5_1 = some true) ∧ Aside0 (kq ≤ k) ∧ Aside0 (Below w.heap.size w w'))
    case atStart => exact ⟨(0), (by first | rfl | (simp; done) | (simp [*]; done)), H', ⟨Nat.le_refl _⟩, ⟨by repeat (first | (with_reducible first | exact HB.out | apply below_alloc | apply pw_below_drewN | apply below_drew1) | exact HB.out)⟩⟩
    case round =>
      clear H'
      try clear c1
      try clear p2
      try clear c3
      try clear c3b0
      try clear c3b1
      try clear c3b2
      obtain ⟨x5_1, rfl, HA, HK1, HB⟩ := hrel
      cases gk with
      | zero => exact absurd HA.out (by simp [laws_eqCellS.l0])
      | succ k1 =>
        have H := HA.out
        clear HA
        simp only [laws_eqCellS.l0] at H
        by_cases c4 : x5_1 < (l0.length : Int)
        · rw [if_pos c4] at H
          have c4b0 : decide (x5_1 < (l0.length : Int)) = true := decide_eq_true c4
          clear c4
          by_cases c5 : 0 ≤ x5_1
          · rw [if_pos c5] at H
            have c5b0 : decide (0 ≤ x5_1) = true := decide_eq_true c5
            clear c5
            by_cases c6 : x5_1 < (l1.length : Int)
            · rw [if_pos c6] at H
              have c6b0 : decide (x5_1 < (l1.length : Int)) = true := decide_eq_true c6
              clear c6
              replace H := Option.bind_eq_some_iff.mp H
              obtain ⟨t265, A70, H⟩ := H
              replace H : (if t265 = true then (laws_eqCellS.l0 k1 l0 l1 (wrap64 (x5_1 + 1))) else (some false)) = some true := H
              have A7 := Aside0.mk A70
              clear A70
              by_cases c8 : t265 = true
              · subst c8
                have H1 : (laws_eqCellS.l0 k1 l0 l1 (wrap64 (x5_1 + 1))) = some true := by rw [if_pos rfl] at H; (first | done | exact H)
                clear H
                have H := H1
                clear H1
                have H' := Aside0.mk H
                clear H
                try go_wp2
                have n0_ := Aside0.mk (below_drew1 HB.out)
                clear HB
                have HB := n0_
                clear n0_
                have p263 : 0 ≤ (x5_1 : Int) := of_decide_eq_true (by first | (with_reducible assumption) | assumption)
                have q263 : x5_1 < (l0.length : Int) := of_decide_eq_true (by first | (with_reducible assumption) | assumption)
                obtain ⟨ad263, e263, hx263_0, hx263_1⟩ := at_T107 HR0.out x5_1 p263 q263
                have hw263_1 := hx263_1
                have hw263_0 := hx263_0
                cases e263
                replace hx263_0 := (HB.out.cell (World.block_lt_of_cell? w _ hx263_0)).trans hx263_0
                replace hx263_1 := (HB.out.cell (World.block_lt_of_cell? w _ hx263_1)).trans hx263_1
                replace p263 := eq_true p263
                replace q263 := eq_true q263
                have p264 : 0 ≤ (x5_1 : Int) := of_decide_eq_true (by first | (with_reducible assumption) | assumption)
                have q264 : x5_1 < (l1.length : Int) := of_decide_eq_true (by first | (with_reducible assumption) | assumption)
                obtain ⟨ad264, e264, hx264_0, hx264_1⟩ := at_T107 HR1.out x5_1 p264 q264
                have hw264_1 := hx264_1
                have hw264_0 := hx264_0
                cases e264
                replace hx264_0 := (HB.out.cell (World.block_lt_of_cell? w _ hx264_0)).trans hx264_0
                replace hx264_1 := (HB.out.cell (World.block_lt_of_cell? w _ hx264_1)).trans hx264_1
                replace p264 := eq_true p264
                replace q264 := eq_true q264
                refine start_ (n := 10) (S := fun w' => w'.cell? (ad263.add ((x5_1).toNat * 2)) = some (.int .i64 ((rd_T107 l0 x5_1).f0)) ∧ w'.cell? ⟨(ad263.add ((x5_1).toNat * 2)).block, (ad263.add ((x5_1).toNat * 2)).off + 1, none⟩ = some (.int .i64 ((rd_T107 l0 x5_1).f1)) ∧ w'.cell? (ad264.add ((x5_1).toNat * 2)) = some (.int .i64 ((rd_T107 l1 x5_1).f0)) ∧ w'.cell? ⟨(ad264.add ((x5_1).toNat * 2)).block, (ad264.add ((x5_1).toNat * 2)).off + 1, none⟩ = some (.int .i64 ((rd_T107 l1 x5_1).f1))) (ds := []) #[false, false, false, false, false, false, false, false, false, false] (by kernel_rfl) rfl rfl ⟨((HB.out.cell (World.block_lt_of_cell? w _ hw263_0)).trans hw263_0), ((HB.out.cell (World.block_lt_of_cell? w _ hw263_1)).trans hw263_1), ((HB.out.cell (World.block_lt_of_cell? w _ hw264_0)).trans hw264_0), ((HB.out.cell (World.block_lt_of_cell? w _ hw264_1)).trans hw264_1)⟩ (fun hHeld => ?_); refine with_tabW laws_eqCellS.tab6 laws_eqCellS.bits6 (fun HT_ HW_ => ?_)
                generalize wr.drew = w9 at HB hx263_0 hx263_1 hx264_0 hx264_1 hHeld ⊢
                refine pure_ (i := 0) (N := some 17) (v := ?_) (a' := ?_) #[true, false, false, false, false, false, false, false, false, false] rfl rfl (any_of HT_.out (by kernel_rfl)) (fun _ _ _ h => h) (Or.inl ⟨by rfl, ?_⟩) ?_ ?_
                rotate_left
                · intro w'
                  go_simp
                  with_reducible rfl
                rotate_left
                · simp only [Act.put, List.setIfInBounds_toArray, List.set_cons_zero, List.set_cons_succ, i64_w, i32_w]
                  rfl
                refine pure_ (i := 1) (N := some 18) (v := ?_) (a' := ?_) #[true, true, false, false, false, false, false, false, false, false] rfl rfl (any_of HT_.out (by kernel_rfl)) (fun _ _ _ h => h) (Or.inl ⟨by rfl, ?_⟩) ?_ ?_
                rotate_left
                · intro w'
                  go_simp
                  with_reducible rfl
                rotate_left
                · simp only [Act.put, List.setIfInBounds_toArray, List.set_cons_zero, List.set_cons_succ, i64_w, i32_w]
                  rfl
                refine pure_ (i := 2) (N := some 19) (v := ?_) (a' := ?_) #[true, true, true, false, false, false, false, false, false, false] rfl rfl (any_of HT_.out (by kernel_rfl)) (fun _ _ _ h => h) (Or.inl ⟨by rfl, ?_⟩) ?_ ?_
                rotate_left
                · intro w'
                  go_simp
                  with_reducible rfl
                rotate_left
                · simp only [Act.put, List.setIfInBounds_toArray, List.set_cons_zero, List.set_cons_succ, i64_w, i32_w]
                  rfl
                refine pure_ (i := 4) (N := some 21) (v := ?_) (a' := ?_) #[true, true, true, false, true, false, false, false, false, false] rfl rfl (any_of HT_.out (by kernel_rfl)) (fun _ _ _ h => h) (Or.inl ⟨by rfl, ?_⟩) ?_ ?_
                rotate_left
                · intro w'
                  go_simp
                  with_reducible rfl
                rotate_left
                · simp only [Act.put, List.setIfInBounds_toArray, List.set_cons_zero, List.set_cons_succ, i64_w, i32_w]
                  rfl
                refine pure_ (i := 5) (N := some 22) (v := ?_) (a' := ?_) #[true, true, true, false, true, true, false, false, false, false] rfl rfl (any_of HT_.out (by kernel_rfl)) (fun _ _ _ h => h) (Or.inl ⟨by rfl, ?_⟩) ?_ ?_
                rotate_left
                · intro w'
                  go_simp
                  with_reducible rfl
                rotate_left
                · simp only [Act.put, List.setIfInBounds_toArray, List.set_cons_zero, List.set_cons_succ, i64_w, i32_w]
                  rfl
                refine pure_ (i := 6) (N := some 23) (v := ?_) (a' := ?_) #[true, true, true, false, true, true, true, false, false, false] rfl rfl (any_of HT_.out (by kernel_rfl)) (fun _ _ _ h => h) (Or.inl ⟨by rfl, ?_⟩) ?_ ?_
                rotate_left
                · intro w'
                  go_simp
                  with_reducible rfl
                rotate_left
                · simp only [Act.put, List.setIfInBounds_toArray, List.set_cons_zero, List.set_cons_succ, i64_w, i32_w]
                  rfl
                refine take_ (i := 3) (N := some 20) (v := ?_) (a' := ?_) #[true, true, true, true, true, true, true, false, false, false] rfl rfl (take_ofW HT_.out HW_.out (by kernel_rfl)) (fun _ _ _ h => h) (Or.inl ⟨by rfl, ?_⟩) hHeld ?_ ?_
                rotate_left
                · rintro w' ⟨s0, s1, s2, s3⟩
                  go_simp
                  with_reducible rfl
                rotate_left
                · simp only [Act.put, List.setIfInBounds_toArray, List.set_cons_zero, List.set_cons_succ, i64_w, i32_w]
                  rfl
                refine take_ (i := 7) (N := some 24) (v := ?_) (a' := ?_) #[true, true, true, true, true, true, true, true, false, false] rfl rfl (take_ofW HT_.out HW_.out (by kernel_rfl)) (fun _ _ _ h => h) (Or.inl ⟨by rfl, ?_⟩) hHeld ?_ ?_
                rotate_left
                · rintro w' ⟨s0, s1, s2, s3⟩
                  go_simp
                  with_reducible rfl
                rotate_left
                · simp only [Act.put, List.setIfInBounds_toArray, List.set_cons_zero, List.set_cons_succ, i64_w, i32_w]
                  rfl
                refine one_ (i := 8) (N := some 25) #[true, true, true, true, true, true, true, true, true, false] rfl rfl (one_of HT_.out (by kernel_rfl)) (by decide) (fun K hK => ?_)
                refine goes_ Try.func111 (by kernel_rfl) rfl #[.agg #[.int .i64 ((rd_T107 l0 x5_1).f0), .int .i64 ((rd_T107 l0 x5_1).f1)], .agg #[.int .i64 ((rd_T107 l1 x5_1).f0), .int .i64 ((rd_T107 l1 x5_1).f1)]] (by rfl) rfl rfl (by (try simp only [List.map_toArray, List.map_cons, List.map_nil]); first | done | rfl | (simp only [List.length_drop, List.length_take]; rfl)) ?_
                with_reducible refine (laws_eqCell.calls ((rd_T107 l0 x5_1).f0) ((rd_T107 l0 x5_1).f1) ((rd_T107 l1 x5_1).f0) ((rd_T107 l1 x5_1).f1)  _ A7.out).mono ?_
                rintro e w10 ⟨rfl, hb⟩
                refine ⟨_, rfl, ?_⟩
                have n0_ := Aside0.mk (below_step (by repeat (first | (with_reducible first | exact HB.out | apply below_alloc | apply pw_below_drewN | apply below_drew1) | exact HB.out)) hb)
                clear HB
                have HB := n0_
                clear n0_
                (try clear hb)
                (try clear hb2)
                (try clear hk)
                (try clear hi)
                refine hK.out _ _ ⟨((HB.out.cell (World.block_lt_of_cell? w _ hw263_0)).trans hw263_0), ((HB.out.cell (World.block_lt_of_cell? w _ hw263_1)).trans hw263_1), ((HB.out.cell (World.block_lt_of_cell? w _ hw264_0)).trans hw264_0), ((HB.out.cell (World.block_lt_of_cell? w _ hw264_1)).trans hw264_1)⟩ (fun hHeld => ?_)
                clear hK K
                refine norm_ (a' := ?_) ?_ ?_
                rotate_left
                · show Act.put _ (some 25) _ = _
                  simp only [Act.put, List.setIfInBounds_toArray, List.set_cons_zero, List.set_cons_succ, i64_w, i32_w]
                  rfl
                refine pure_ (i := 9) (N := some 26) (v := ?_) (a' := ?_) #[true, true, true, true, true, true, true, true, true, true] rfl rfl (any_of HT_.out (by kernel_rfl)) (fun _ _ _ h => h) (Or.inl ⟨by rfl, ?_⟩) ?_ ?_
                rotate_left
                · intro w'
                  go_simp
                  with_reducible rfl
                rotate_left
                · simp only [Act.put, List.setIfInBounds_toArray, List.set_cons_zero, List.set_cons_succ, i64_w, i32_w]
                  rfl
                refine done_ (done_of HT_.out (by kernel_rfl)) ?_
                try go_wp2
                go_roundg k1
                case measure => have := HK1.out; omega
                case rel => exact ⟨(wrap64 (x5_1 + 1)), (by first | rfl | (simp; done) | (simp [*]; done)), H', ⟨by have := HK1.out; omega⟩, ⟨by repeat (first | (with_reducible first | exact HB.out | apply below_alloc | apply pw_below_drewN | apply below_drew1) | exact HB.out)⟩⟩
              · replace c8 := Bool.eq_false_iff.mpr c8
                subst c8
                have H1 : (some false) = some true := by rw [if_neg (show ¬ (false = true) by decide)] at H; (first | done | exact H)
                clear H
                have H := H1
                clear H1
                exact absurd H (by simp)
            · rw [if_neg c6] at H
              exact absurd H (by simp)
          · rw [if_neg c5] at H
            exact absurd H (by simp)
        · rw [if_neg c4] at H
          have c4b0 : decide (x5_1 < (l0.length : Int)) = false := decide_eq_false c4
          clear c4
          go_wp2
          go_ret
          exact ⟨by first | rfl | (simp [errW_none, errW_some] <;> rfl) | (simp [*, errW_none, errW_some] <;> rfl), by repeat (first | (with_reducible first | exact HB.out | apply below_alloc | apply pw_below_drewN | apply below_drew1) | exact HB.out)⟩
  · rw [if_neg c3] at H
    have c3b0 : ((l0.length : Int) == (l1.length : Int)) = false := beq_eq_false_iff_ne.mpr c3
    have c3b1 : ((l0.length : Int) != (l1.length : Int)) = true := bne_iff_ne.mpr c3
    have c3b2 : (l0.length == l1.length) = false := by first | simpa using c3 | (simp at c3 ⊢; omega)
    exact absurd H (by simp)

/-! ### laws_eqGrid: function 29 -/
def laws_eqGrid.f (k : Nat) (a0_0 : Int) (a0_1 : Int) (l0_2 : List (S107)) (l0_3 : List (S107)) (a1_0 : Int) (a1_1 : Int) (l1_2 : List (S107)) (l1_3 : List (S107)) : Option (Bool) := if a0_0 = a1_0 then (if a0_1 = a1_1 then ((laws_eqCellS.f k l0_2 l1_2).bind fun t268 => (if t268 = true then ((laws_eqCellS.f k l0_3 l1_3).bind fun t269 => (if t269 = true then (some true) else (some false))) else (some false))) else (some false)) else (some false)
theorem laws_eqGrid.mono : ∀ a0 a1 a2 a3 a4 a5 a6 a7 k, LeO (laws_eqGrid.f k a0 a1 a2 a3 a4 a5 a6 a7) (laws_eqGrid.f (k + 1) a0 a1 a2 a3 a4 a5 a6 a7) := by
  intro a0 a1 a2 a3 a4 a5 a6 a7 k
  unfold laws_eqGrid.f
  repeat' first
      | (with_reducible exact laws_eqCellS.mono _ _ _)
      | (with_reducible exact LeO.refl _)
      | (with_reducible exact LeO.none _)
      | (with_reducible refine LeO.ite ?_ ?_)
      | (with_reducible refine LeO.bind ?_ (fun _ => ?_))
      | exact laws_eqCellS.mono _ _ _
      | exact LeO.none _
      | refine LeO.ite ?_ ?_
      | refine LeO.bind ?_ (fun _ => ?_)
set_option maxHeartbeats 8000000 in
set_option maxRecDepth 100000 in
theorem laws_eqGrid.calls (k : Nat) (a0_0 : Int) (a0_1 : Int) (A0_2 : Option Addr) (c0_2 : Nat) (l0_2 : List (S107)) (A0_3 : Option Addr) (c0_3 : Nat) (l0_3 : List (S107)) (a1_0 : Int) (a1_1 : Int) (A1_2 : Option Addr) (c1_2 : Nat) (l1_2 : List (S107)) (A1_3 : Option Addr) (c1_3 : Nat) (l1_3 : List (S107)) (w : World) (hr0_2 : Kd.C k107 w A0_2 l0_2.length l0_2) (hc0_2 : l0_2.length ≤ c0_2) (hr0_3 : Kd.C k107 w A0_3 l0_3.length l0_3) (hc0_3 : l0_3.length ≤ c0_3) (hr1_2 : Kd.C k107 w A1_2 l1_2.length l1_2) (hc1_2 : l1_2.length ≤ c1_2) (hr1_3 : Kd.C k107 w A1_3 l1_3.length l1_3) (hc1_3 : l1_3.length ≤ c1_3) (h : laws_eqGrid.f k a0_0 a0_1 l0_2 l0_3 a1_0 a1_1 l1_2 l1_3 = some true) :
    Calls Try.prog 29 #[.agg #[.int .i64 a0_0, .int .i64 a0_1, .slice A0_2 l0_2.length c0_2, .slice A0_3 l0_3.length c0_3], .agg #[.int .i64 a1_0, .int .i64 a1_1, .slice A1_2 l1_2.length c1_2, .slice A1_3 l1_3.length c1_3]] w fun e w' => e = .returned (.bool true) ∧ Below w.heap.size w w' := by
  have hu47 := Try.underlying47
  have HR0_2 := Aside0.mk hr0_2
  have HC0_2 := Aside0.mk hc0_2
  clear hr0_2 hc0_2
  have HR0_3 := Aside0.mk hr0_3
  have HC0_3 := Aside0.mk hc0_3
  clear hr0_3 hc0_3
  have HR1_2 := Aside0.mk hr1_2
  have HC1_2 := Aside0.mk hc1_2
  clear hr1_2 hc1_2
  have HR1_3 := Aside0.mk hr1_3
  have HC1_3 := Aside0.mk hc1_3
  clear hr1_3 hc1_3
  have HB := Aside0.mk (Below.refl w.heap.size w)
  have H : (if a0_0 = a1_0 then (if a0_1 = a1_1 then ((laws_eqCellS.f k l0_2 l1_2).bind fun t268 => (if t268 = true then ((laws_eqCellS.f k l0_3 l1_3).bind fun t269 => (if t269 = true then (some true) else (some false))) else (some false))) else (some false)) else (some false)) = some true := h
  clear h
  by_cases c3 : a0_0 = a1_0
  · rw [if_pos c3] at H
    have c3b0 : (a0_0 == a1_0) = true := beq_iff_eq.mpr c3
    have c3b1 : (a0_0 != a1_0) = false := bne_eq_false_iff_eq.mpr c3
    clear c3
    by_cases c4 : a0_1 = a1_1
    · rw [if_pos c4] at H
      have c4b0 : (a0_1 == a1_1) = true := beq_iff_eq.mpr c4
      have c4b1 : (a0_1 != a1_1) = false := bne_eq_false_iff_eq.mpr c4
      clear c4
      replace H := Option.bind_eq_some_iff.mp H
      obtain ⟨t268, A50, H⟩ := H
      replace H : (if t268 = true then ((laws_eqCellS.f k l0_3 l1_3).bind fun t269 => (if t269 = true then (some true) else (some false))) else (some false)) = some true := H
      have A5 := Aside0.mk A50
      clear A50
      by_cases c6 : t268 = true
      · subst c6
        have H1 : ((laws_eqCellS.f k l0_3 l1_3).bind fun t269 => (if t269 = true then (some true) else (some false))) = some true := by rw [if_pos rfl] at H; (first | done | exact H)
        clear H
        have H := H1
        clear H1
        replace H := Option.bind_eq_some_iff.mp H
        obtain ⟨t269, A70, H⟩ := H
        replace H : (if t269 = true then (some true) else (some false)) = some true := H
        have A7 := Aside0.mk A70
        clear A70
        by_cases c8 : t269 = true
        · subst c8
          have H1 : (some true) = some true := by rw [if_pos rfl] at H; (first | done | exact H)
          clear H
          have H := H1
          clear H1
          go_enter Try.func29, Try.ntmps29
          go_wp2_with (first | ((with_reducible refine gate_dst (N := 2) rfl ?_); refine box_event ?hg (N := 2) ?hd (cs := #[.int .i64 a0_0, .int .i64 a0_1, .slice A0_2 l0_2.length c0_2, .slice A0_3 l0_3.length c0_3]) (t := 47) ?hr ?_; (case hd => rfl); (case hg => rfl); (case hr => first | (go_simp; done) | (go_simp; rfl)); intro gb266 hg w9 hbox hb; have n0_ := Aside0.mk (below_step (by repeat (first | (with_reducible first | exact HB.out | apply below_alloc | apply pw_below_drewN | apply below_drew1) | exact HB.out)) hb); have n1_ := Aside0.mk (hbox); have n2_ := Aside0.mk ((by rw [hg]; exact (below_size (by repeat (first | (with_reducible first | exact HB.out | apply below_alloc | apply pw_below_drewN | apply below_drew1) | exact HB.out))) : w.heap.size ≤ gb266)); have n3_ := Aside0.mk ((by rw [hg]; exact (below_size (by repeat (first | (with_reducible first | exact HB.out | apply below_alloc | apply pw_below_drewN | apply below_drew1) | exact HB.out))) : w.heap.size ≤ gb266)); clear HB; have HB := n0_; have BK266 := n1_; have GW266 := n2_; have GE266 := n3_; clear n0_ n1_ n2_ n3_; clear hb hbox hg) | ((with_reducible refine gate_dst (N := 3) rfl ?_); refine box_event ?hg (N := 3) ?hd (cs := #[.int .i64 a1_0, .int .i64 a1_1, .slice A1_2 l1_2.length c1_2, .slice A1_3 l1_3.length c1_3]) (t := 47) ?hr ?_; (case hd => rfl); (case hg => rfl); (case hr => first | (go_simp; done) | (go_simp; rfl)); intro gb267 hg w10 hbox hb; have n0_ := Aside0.mk (blk_below (g := gb266) (o := .cells #[.int .i64 a0_0, .int .i64 a0_1, .slice A0_2 l0_2.length c0_2, .slice A0_3 l0_3.length c0_3] 47 (0, 0)) (by (with_reducible repeat (first | refine blk_drewN ?_ _ | refine blk_drew ?_ | refine blk_alloc ?_ _)); exact BK266.out) hb); have n1_ := Aside0.mk (below_step (by repeat (first | (with_reducible first | exact HB.out | apply below_alloc | apply pw_below_drewN | apply below_drew1 | refine below_set ?_ GE266.out) | exact HB.out)) hb); have n2_ := Aside0.mk (hbox); have n3_ := Aside0.mk ((by rw [hg]; exact (below_size (by repeat (first | (with_reducible first | exact HB.out | apply below_alloc | apply pw_below_drewN | apply below_drew1 | refine below_set ?_ GE266.out) | exact HB.out))) : w.heap.size ≤ gb267)); have n4_ := Aside0.mk ((by rw [hg]; exact (below_size (by repeat (first | (with_reducible first | exact HB.out | apply below_alloc | apply pw_below_drewN | apply below_drew1 | refine below_set ?_ GE266.out) | exact HB.out))) : w.heap.size ≤ gb267)); have n5_ := Aside0.mk ((by rw [hg]; exact Nat.ne_of_lt (blk_lt (g := gb266) (o := .cells #[.int .i64 a0_0, .int .i64 a0_1, .slice A0_2 l0_2.length c0_2, .slice A0_3 l0_3.length c0_3] 47 (0, 0)) (by (with_reducible repeat (first | refine blk_drewN ?_ _ | refine blk_drew ?_ | refine blk_alloc ?_ _)); exact BK266.out)) : gb266 ≠ gb267)); have n6_ := Aside0.mk ((by rw [hg]; exact Nat.ne_of_gt (blk_lt (g := gb266) (o := .cells #[.int .i64 a0_0, .int .i64 a0_1, .slice A0_2 l0_2.length c0_2, .slice A0_3 l0_3.length c0_3] 47 (0, 0)) (by (with_reducible repeat (first | refine blk_drewN ?_ _ | refine blk_drew ?_ | refine blk_alloc ?_ _)); exact BK266.out)) : gb267 ≠ gb266)); clear BK266; clear HB; have BK266 := n0_; have HB := n1_; have BK267 := n2_; have GW267 := n3_; have GE267 := n4_; have NB266_267 := n5_; have NB267_266 := n6_; clear n0_ n1_ n2_ n3_ n4_ n5_ n6_; clear hb hbox hg; have hnb11 := NB266_267.out; have hnc11 := NB267_266.out; have hcz12_0 : w10.cell? ⟨gb266, 0, none⟩ = some (.int .i64 a0_0) := (blk_cell BK266.out 0).trans rfl; have hcz12_1 : w10.cell? ⟨gb266, 1, none⟩ = some (.int .i64 a0_1) := (blk_cell BK266.out 1).trans rfl; have hcz12_2 : w10.cell? ⟨gb266, 2, none⟩ = some (.slice A0_2 l0_2.length c0_2) := (blk_cell BK266.out 2).trans rfl; have hcz12_3 : w10.cell? ⟨gb266, 3, none⟩ = some (.slice A0_3 l0_3.length c0_3) := (blk_cell BK266.out 3).trans rfl; have hfz12_0 := blk_frozen BK266.out 0; have hfz12_1 := blk_frozen BK266.out 1; have hfz12_2 := blk_frozen BK266.out 2; have hfz12_3 := blk_frozen BK266.out 3; have hcz13_0 : w10.cell? ⟨gb267, 0, none⟩ = some (.int .i64 a1_0) := (blk_cell BK267.out 0).trans rfl; have hcz13_1 : w10.cell? ⟨gb267, 1, none⟩ = some (.int .i64 a1_1) := (blk_cell BK267.out 1).trans rfl; have hcz13_2 : w10.cell? ⟨gb267, 2, none⟩ = some (.slice A1_2 l1_2.length c1_2) := (blk_cell BK267.out 2).trans rfl; have hcz13_3 : w10.cell? ⟨gb267, 3, none⟩ = some (.slice A1_3 l1_3.length c1_3) := (blk_cell BK267.out 3).trans rfl; have hfz13_0 := blk_frozen BK267.out 0; have hfz13_1 := blk_frozen BK267.out 1; have hfz13_2 := blk_frozen BK267.out 2; have hfz13_3 := blk_frozen BK267.out 3) | ((with_reducible refine gate_callee (f := 74) rfl ?_); refine goesL_ (some 19) rfl rfl Try.func74 (by kernel_rfl) rfl #[.slice A0_2 l0_2.length c0_2, .slice A1_2 l1_2.length c1_2] rfl (by (try simp only [List.map_toArray, List.map_cons, List.map_nil]); first | done | rfl | (simp only [List.length_drop, List.length_take]; rfl)) ?_; (with_reducible refine (laws_eqCellS.calls k _ _ l0_2 _ _ l1_2  _ ?side1 ?side2 ?side3 ?side4 A5.out).mono ?_); (case side1 => repeat (first | exact (Kd.C_below HR0_2.out HB.out) | (with_reducible refine Kd.C_alloc ?_ _) | (with_reducible refine Kd.C_drewN ?_ _) | (with_reducible refine Kd.C_drew ?_))); (case side2 => exact HC0_2.out); (case side3 => repeat (first | exact (Kd.C_below HR1_2.out HB.out) | (with_reducible refine Kd.C_alloc ?_ _) | (with_reducible refine Kd.C_drewN ?_ _) | (with_reducible refine Kd.C_drew ?_))); (case side4 => exact HC1_2.out); rintro e w14 ⟨rfl, hb⟩; refine ⟨_, rfl, ?_⟩; have n0_ := Aside0.mk (blk_below (g := gb266) (o := .cells #[.int .i64 a0_0, .int .i64 a0_1, .slice A0_2 l0_2.length c0_2, .slice A0_3 l0_3.length c0_3] 47 (0, 0)) (by (with_reducible repeat (first | refine blk_drewN ?_ _ | refine blk_drew ?_ | refine blk_alloc ?_ _)); exact BK266.out) hb); have n1_ := Aside0.mk (blk_below (g := gb267) (o := .cells #[.int .i64 a1_0, .int .i64 a1_1, .slice A1_2 l1_2.length c1_2, .slice A1_3 l1_3.length c1_3] 47 (0, 0)) (by (with_reducible repeat (first | refine blk_drewN ?_ _ | refine blk_drew ?_ | refine blk_alloc ?_ _)); exact BK267.out) hb); have n2_ := Aside0.mk (below_step (by repeat (first | (with_reducible first | exact HB.out | apply below_alloc | apply pw_below_drewN | apply below_drew1 | refine below_set ?_ GE266.out | refine below_set ?_ GE267.out) | exact HB.out)) hb); clear BK266; clear BK267; clear HB; have BK266 := n0_; have BK267 := n1_; have HB := n2_; clear n0_ n1_ n2_; (try clear hb); (try clear hb2); (try clear hk); (try clear hi); have hcz15_0 : w14.cell? ⟨gb266, 0, none⟩ = some (.int .i64 a0_0) := (blk_cell BK266.out 0).trans rfl; have hcz15_1 : w14.cell? ⟨gb266, 1, none⟩ = some (.int .i64 a0_1) := (blk_cell BK266.out 1).trans rfl; have hcz15_2 : w14.cell? ⟨gb266, 2, none⟩ = some (.slice A0_2 l0_2.length c0_2) := (blk_cell BK266.out 2).trans rfl; have hcz15_3 : w14.cell? ⟨gb266, 3, none⟩ = some (.slice A0_3 l0_3.length c0_3) := (blk_cell BK266.out 3).trans rfl; have hfz15_0 := blk_frozen BK266.out 0; have hfz15_1 := blk_frozen BK266.out 1; have hfz15_2 := blk_frozen BK266.out 2; have hfz15_3 := blk_frozen BK266.out 3; have hcz16_0 : w14.cell? ⟨gb267, 0, none⟩ = some (.int .i64 a1_0) := (blk_cell BK267.out 0).trans rfl; have hcz16_1 : w14.cell? ⟨gb267, 1, none⟩ = some (.int .i64 a1_1) := (blk_cell BK267.out 1).trans rfl; have hcz16_2 : w14.cell? ⟨gb267, 2, none⟩ = some (.slice A1_2 l1_2.length c1_2) := (blk_cell BK267.out 2).trans rfl; have hcz16_3 : w14.cell? ⟨gb267, 3, none⟩ = some (.slice A1_3 l1_3.length c1_3) := (blk_cell BK267.out 3).trans rfl; have hfz16_0 := blk_frozen BK267.out 0; have hfz16_1 := blk_frozen BK267.out 1; have hfz16_2 := blk_frozen BK267.out 2; have hfz16_3 := blk_frozen BK267.out 3) | ((with_reducible refine gate_callee (f := 74) rfl ?_); refine goesL_ (some 25) rfl rfl Try.func74 (by kernel_rfl) rfl #[.slice A0_3 l0_3.length c0_3, .slice A1_3 l1_3.length c1_3] rfl (by (try simp only [List.map_toArray, List.map_cons, List.map_nil]); first | done | rfl | (simp only [List.length_drop, List.length_take]; rfl)) ?_; (with_reducible refine (laws_eqCellS.calls k _ _ l0_3 _ _ l1_3  _ ?side1 ?side2 ?side3 ?side4 A7.out).mono ?_); (case side1 => repeat (first | exact (Kd.C_below HR0_3.out HB.out) | (with_reducible refine Kd.C_alloc ?_ _) | (with_reducible refine Kd.C_drewN ?_ _) | (with_reducible refine Kd.C_drew ?_))); (case side2 => exact HC0_3.out); (case side3 => repeat (first | exact (Kd.C_below HR1_3.out HB.out) | (with_reducible refine Kd.C_alloc ?_ _) | (with_reducible refine Kd.C_drewN ?_ _) | (with_reducible refine Kd.C_drew ?_))); (case side4 => exact HC1_3.out); rintro e w17 ⟨rfl, hb⟩; refine ⟨_, rfl, ?_⟩; have n0_ := Aside0.mk (blk_below (g := gb266) (o := .cells #[.int .i64 a0_0, .int .i64 a0_1, .slice A0_2 l0_2.length c0_2, .slice A0_3 l0_3.length c0_3] 47 (0, 0)) (by (with_reducible repeat (first | refine blk_drewN ?_ _ | refine blk_drew ?_ | refine blk_alloc ?_ _)); exact BK266.out) hb); have n1_ := Aside0.mk (blk_below (g := gb267) (o := .cells #[.int .i64 a1_0, .int .i64 a1_1, .slice A1_2 l1_2.length c1_2, .slice A1_3 l1_3.length c1_3] 47 (0, 0)) (by (with_reducible repeat (first | refine blk_drewN ?_ _ | refine blk_drew ?_ | refine blk_alloc ?_ _)); exact BK267.out) hb); have n2_ := Aside0.mk (below_step (by repeat (first | (with_reducible first | exact HB.out | apply below_alloc | apply pw_below_drewN | apply below_drew1 | refine below_set ?_ GE266.out | refine below_set ?_ GE267.out) | exact HB.out)) hb); clear BK266; clear BK267; clear HB; have BK266 := n0_; have BK267 := n1_; have HB := n2_; clear n0_ n1_ n2_; (try clear hb); (try clear hb2); (try clear hk); (try clear hi)))
          go_ret
          exact ⟨by first | rfl | (simp [errW_none, errW_some] <;> rfl) | (simp [*, errW_none, errW_some] <;> rfl), by repeat (first | (with_reducible first | exact HB.out | apply below_alloc | apply pw_below_drewN | apply below_drew1 | refine below_set ?_ GE266.out | refine below_set ?_ GE267.out) | exact HB.out)⟩
        · replace c8 := Bool.eq_false_iff.mpr c8
          subst c8
          have H1 : (some false) = some true := by rw [if_neg (show ¬ (false = true) by decide)] at H; (first | done | exact H)
          clear H
          have H := H1
          clear H1
          exact absurd H (by simp)
      · replace c6 := Bool.eq_false_iff.mpr c6
        subst c6
        have H1 : (some false) = some true := by rw [if_neg (show ¬ (false = true) by decide)] at H; (first | done | exact H)
        clear H
        have H := H1
        clear H1
        exact absurd H (by simp)
    · rw [if_neg c4] at H
      have c4b0 : (a0_1 == a1_1) = false := beq_eq_false_iff_ne.mpr c4
      have c4b1 : (a0_1 != a1_1) = true := bne_iff_ne.mpr c4
      exact absurd H (by simp)
  · rw [if_neg c3] at H
    have c3b0 : (a0_0 == a1_0) = false := beq_eq_false_iff_ne.mpr c3
    have c3b1 : (a0_0 != a1_0) = true := bne_iff_ne.mpr c3
    exact absurd H (by simp)

end Go.Proofs.Ytagipnepckgdfaa.PFnExactNewScreen
