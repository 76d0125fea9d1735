-- Written for this claim by a program of this session's (wip/p2.sh).
import Derived.Test.YtagipnepckgdfaaPFnExactNewVtx0
import Derived.Test.YtagipnepckgdfaaShort
import Derived.Test.YtagipnepckgdfaaPFnExactNewVtx1
namespace Go.Proofs.Ytagipnepckgdfaa.PFnExactNewVt
open Go.RowKit Go.Proofs.YtagipnepckgdfaaW.PrintWords Go.Proofs.YtagipnepckgdfaaW.PrintLast Go.Proofs.YtagipnepckgdfaaW.PrintMore Go.Proofs.YtagipnepckgdfaaShort
attribute [local go_sem] max2_int min2_int max_two min_two max_three min_three max_four min_four   -- for this text's walks alone
set_option linter.unusedVariables false
set_option linter.unusedSimpArgs false

/-! ### impl_newScreen: function 92 -/
def impl_newScreen.l0 : Nat → Int → Int → Int → Int → List (S107) → List (S107) → Int → Int → Bool → Int → Int → Int → Bool → Bool → Bool → List Bool → Int → Int → Int → List Int → Int → Int → Option (Int × Int × (List (S107)) × (List (S107)) × Int × Int × Bool × Int × Int × Int × Bool × Bool × Bool × List Bool × Int × Int × Int × List Int × Int × Int)
 | 0, _, _, _, _, _, _, _, _, _, _, _, _, _, _, _, _, _, _, _, _, _, _ => none
 | k + 1, x14, x15, x197000, x197001, x197002, x197003, x197004, x197005, x197006, x197007, x197008, x197009, x197010, x197011, x197012, x197013, x197014, x197015, x197016, x197017, x197018, x197019 => if x15 < x14 then ((impl_isTab.f x15).bind fun t197 => (if x197013.length < 140737488355328 then (impl_newScreen.l0 k x14 (wrap64 (x15 + 1)) x197000 x197001 x197002 x197003 x197004 x197005 x197006 x197007 x197008 x197009 x197010 x197011 x197012 (x197013 ++ [t197]) x197014 x197015 x197016 x197017 x197018 x197019) else (none))) else (some (x197000, x197001, x197002, x197003, x197004, x197005, x197006, x197007, x197008, x197009, x197010, x197011, x197012, x197013, x197014, x197015, x197016, x197017, x197018, x197019))
def impl_newScreen.f (k : Nat) (a0 : Int) (a1 : Int) : Option (Int × Int × (List (S107)) × (List (S107)) × Int × Int × Bool × Int × Int × Int × Bool × Bool × Bool × List Bool × Int × Int × Int × List Int × Int × Int) := (impl_newGrid.f a0 a1).bind fun bt185 => (impl_newScreen.l0 k a1 0 bt185.1 bt185.2.1 bt185.2.2.1 bt185.2.2.2 0 0 false 0 0 (wrap64 (a0 - 1)) false true false ([] : List Bool) 0 0 0 (([1, 1] : List Int)) 0 0)
theorem impl_newScreen.mono_l : ∀ k, (∀ y0 y1 y2 y3 y4 y5 y6 y7 y8 y9 y10 y11 y12 y13 y14 y15 y16 y17 y18 y19 y20 y21, LeO (impl_newScreen.l0 k y0 y1 y2 y3 y4 y5 y6 y7 y8 y9 y10 y11 y12 y13 y14 y15 y16 y17 y18 y19 y20 y21) (impl_newScreen.l0 (k + 1) y0 y1 y2 y3 y4 y5 y6 y7 y8 y9 y10 y11 y12 y13 y14 y15 y16 y17 y18 y19 y20 y21))
 | 0 => fun _ _ _ _ _ _ _ _ _ _ _ _ _ _ _ _ _ _ _ _ _ _ r h => by simp [impl_newScreen.l0] at h
 | k + 1 => by
  have ih0 := impl_newScreen.mono_l k
  ·intro y0 y1 y2 y3 y4 y5 y6 y7 y8 y9 y10 y11 y12 y13 y14 y15 y16 y17 y18 y19 y20 y21
   unfold impl_newScreen.l0
   repeat' first
   | (with_reducible exact ih0 _ _ _ _ _ _ _ _ _ _ _ _ _ _ _ _ _ _ _ _ _ _)
   | (with_reducible exact LeO.refl _)
   | (with_reducible exact LeO.none _)
   | (with_reducible refine LeO.ite ?_ ?_)
   | (with_reducible refine LeO.bind ?_ (fun _ => ?_))
   | exact ih0 _ _ _ _ _ _ _ _ _ _ _ _ _ _ _ _ _ _ _ _ _ _
   | exact LeO.none _
   | refine LeO.ite ?_ ?_
   | refine LeO.bind ?_ (fun _ => ?_)
theorem impl_newScreen.mono : ∀ a0 a1 k, LeO (impl_newScreen.f k a0 a1) (impl_newScreen.f (k + 1) a0 a1) := by
 intro a0 a1 k
 have ih0 := impl_newScreen.mono_l k
 unfold impl_newScreen.f
 repeat' first
   | (with_reducible exact ih0 _ _ _ _ _ _ _ _ _ _ _ _ _ _ _ _ _ _ _ _ _ _)
   | (with_reducible exact LeO.refl _)
   | (with_reducible exact LeO.none _)
   | (with_reducible refine LeO.ite ?_ ?_)
   | (with_reducible refine LeO.bind ?_ (fun _ => ?_))
   | exact ih0 _ _ _ _ _ _ _ _ _ _ _ _ _ _ _ _ _ _ _ _ _ _
   | exact LeO.none _
   | refine LeO.ite ?_ ?_
   | refine LeO.bind ?_ (fun _ => ?_)
def impl_newScreen.T5 : Bool × List (List Nat × List Nat) := (true, [([], []), ([0], [0]), ([], []), ([2], [2]), ([3], [3]), ([1, 4, 3], [1, 4]), ([0, 1, 2, 3, 4, 5], []), ([6, 5, 5, 0, 1, 2, 3, 4, 5], [5, 6])])
def impl_newScreen.B5 : List Nat := [0, 1, 0, 4, 12, 31, 63, 127]
theorem impl_newScreen.tab5 : rtab .any (opsOf Try.f92 5) = impl_newScreen.T5 := by kernel_rfl
theorem impl_newScreen.bits5 : waitsOk impl_newScreen.T5.2 impl_newScreen.B5 = true := by kernel_rfl
set_option maxHeartbeats 8000000 in
set_option maxRecDepth 100000 in
theorem impl_newScreen.calls (k : Nat) (a0 : Int) (a1 : Int) (r1 : Int) (r2 : Int) (r3 : List (S107)) (r4 : List (S107)) (r5 : Int) (r6 : Int) (r7 : Bool) (r8 : Int) (r9 : Int) (r10 : Int) (r11 : Bool) (r12 : Bool) (r13 : Bool) (r14 : List Bool) (r15 : Int) (r16 : Int) (r17 : Int) (r18 : List Int) (r19 : Int) (r20 : Int) (w : World) (h : impl_newScreen.f k a0 a1 = some (r1, r2, r3, r4, r5, r6, r7, r8, r9, r10, r11, r12, r13, r14, r15, r16, r17, r18, r19, r20)) :
  Calls Try.prog 92 #[.int .i64 a0, .int .i64 a1] w fun e w' => ∃ v2_ v3_ v13_ v17_ : Value, e = .returned (.agg #[.int .i64 r1, .int .i64 r2, v2_, v3_, .int .i64 r5, .int .i64 r6, .bool r7, .int .i64 r8, .int .i64 r9, .int .i64 r10, .bool r11, .bool r12, .bool r13, v13_, .int .i64 r15, .int .i64 r16, .int .i64 r17, v17_, .int .i64 r19, .int .i64 r20]) ∧ Kd.R k107 107 w' w.heap.size (fun k_ => some k_ ≠ (v3_ : Value).ownBlock) v2_ r3 ∧ Kd.R k107 107 w' w.heap.size (fun k_ => some k_ ≠ (v2_ : Value).ownBlock) v3_ r4 ∧ Kd.R Kd.bool 4 w' w.heap.size (fun _ => True) v13_ r14 ∧ Kd.R (Kd.int .i64) 2 w' w.heap.size (fun _ => True) v17_ r18 ∧ Below w.heap.size w w' := by
 have hu64 := Try.underlying64
 have HB := Aside0.mk (Below.refl w.heap.size w)
 have H : ((impl_newGrid.f a0 a1).bind fun bt185 => (impl_newScreen.l0 k a1 0 bt185.1 bt185.2.1 bt185.2.2.1 bt185.2.2.2 0 0 false 0 0 (wrap64 (a0 - 1)) false true false ([] : List Bool) 0 0 0 (([1, 1] : List Int)) 0 0)) = some (r1, r2, r3, r4, r5, r6, r7, r8, r9, r10, r11, r12, r13, r14, r15, r16, r17, r18, r19, r20) := h
 clear h
 replace H := Option.bind_eq_some_iff.mp H
 obtain ⟨⟨t185, t186, t187, t190⟩, A30, H⟩ := H
 replace H : (impl_newScreen.l0 k a1 0 t185 t186 t187 t190 0 0 false 0 0 (wrap64 (a0 - 1)) false true false ([] : List Bool) 0 0 0 (([1, 1] : List Int)) 0 0) = some (r1, r2, r3, r4, r5, r6, r7, r8, r9, r10, r11, r12, r13, r14, r15, r16, r17, r18, r19, r20) := H
 have A3 := Aside0.mk A30
 clear A30
 obtain ⟨y193, hy193⟩ : ∃ y_ : List Int, y_ = (([1, 1] : List Int)) := ⟨_, rfl⟩
 replace H : (impl_newScreen.l0 k a1 0 t185 t186 t187 t190 0 0 false 0 0 (wrap64 (a0 - 1)) false true false ([] : List Bool) 0 0 0 y193 0 0) = some (r1, r2, r3, r4, r5, r6, r7, r8, r9, r10, r11, r12, r13, r14, r15, r16, r17, r18, r19, r20) := by first | (rw [hy193]; with_reducible exact H) | (have H2_ := (Option.bind_some _ _).symm.trans H; rw [hy193]; with_reducible exact H2_) | (have H2_ := (Option.bind_some _ _).symm.trans H; with_reducible exact H2_) | with_reducible exact H | (rw [hy193]; exact H) | exact H
 have Ny193 := Aside0.mk hy193
 clear hy193
 have H' := Aside0.mk H
 clear H
 go_enter Try.func92, Try.ntmps92
 go_wp2_with (first | ((with_reducible refine Go.Proofs.YtagipnepckgdfaaCells.gate_load (t := 64) (p := 5) rfl ?_); refine Go.Proofs.YtagipnepckgdfaaCells.load_whole (ty := 64) (p := 5) (g := gb196) (t := 64) ?hg ?ho ?hx (by (with_reducible repeat (first | refine blk_drewN ?_ _ | refine blk_drew ?_ | refine blk_alloc ?_ _)); exact BK196.out) Try.underlying64 rfl ?hi ?_; (case ho => rfl); (case hg => rfl); (case hx => rfl); (case hi => kernel_rfl)) | ((with_reducible refine gate_dst (N := 4) rfl ?_); refine box_event ?hg (N := 4) ?hd (cs := #[.int .i64 0, .int .i64 0, .slice none 0 0, .slice none 0 0, .int .i64 0, .int .i64 0, .bool false, .int .i64 0, .int .i64 0, .int .i64 0, .bool false, .bool false, .bool false, .slice none 0 0, .int .i64 0, .int .i64 0, .int .i64 0, .slice none 0 0, .int .i64 0, .int .i64 0]) (t := 64) ?hr ?_; (case hd => rfl); (case hg => rfl); (case hr => first | (go_simp; done) | (go_simp; rfl)); intro gb184 hg w4 hbox hb; have n0_ := Aside0.mk (below_step (by repeat (first | (with_reducible first | exact HB.out | apply below_alloc | apply pw_below_drewN | apply below_drew1) | exact HB.out)) hb); have n1_ := Aside0.mk (hbox); have n2_ := Aside0.mk ((by rw [hg]; exact (below_size (by repeat (first | (with_reducible first | exact HB.out | apply below_alloc | apply pw_below_drewN | apply below_drew1) | exact HB.out))) : w.heap.size ≤ gb184)); have n3_ := Aside0.mk ((by rw [hg]; exact (below_size (by repeat (first | (with_reducible first | exact HB.out | apply below_alloc | apply pw_below_drewN | apply below_drew1) | exact HB.out))) : w.heap.size ≤ gb184)); clear HB; have HB := n0_; have BK184 := n1_; have GW184 := n2_; have GE184 := n3_; clear n0_ n1_ n2_ n3_; clear hb hbox hg) | ((with_reducible refine gate_callee (f := 82) rfl ?_); refine goesL_ (some 9) rfl rfl Try.func82 (by kernel_rfl) rfl #[.int .i64 a0, .int .i64 a1] rfl (by (try simp only [List.map_toArray, List.map_cons, List.map_nil]); first | done | rfl | (simp only [List.length_drop, List.length_take]; rfl)) ?_; (with_reducible refine (impl_newGrid.calls a0 a1 t185 t186 t187 t190 _ A3.out).mono ?_); rintro e w5 ⟨v188, v191, rfl, ho0, ho1, hb⟩; refine ⟨_, rfl, ?_⟩; have n0_ := Aside0.mk (Kd.R_lower ho0 (below_size (by repeat (first | (with_reducible first | exact HB.out | apply below_alloc | apply pw_below_drewN | apply below_drew1 | refine below_set ?_ GE184.out) | exact HB.out)))); have n1_ := Aside0.mk (Kd.R_lower ho1 (below_size (by repeat (first | (with_reducible first | exact HB.out | apply below_alloc | apply pw_below_drewN | apply below_drew1 | refine below_set ?_ GE184.out) | exact HB.out)))); have n2_ := Aside0.mk (blkb hb BK184.out); have n3_ := Aside0.mk (below_step (by repeat (first | (with_reducible first | exact HB.out | apply below_alloc | apply pw_below_drewN | apply below_drew1 | refine below_set ?_ GE184.out) | exact HB.out)) hb); clear BK184; clear HB; have HO189 := n0_; have HO192 := n1_; have BK184 := n2_; have HB := n3_; clear n0_ n1_ n2_ n3_; (try clear hb); (try clear hb2); (try clear hk); (try clear hi); (try clear ho0); (try clear ho1)) | ((with_reducible refine gate_dst (N := 12) rfl ?_); refine Kd.R_lit (Kd.int .i64) _ 2 ?hg (N := 12) ?hd (xs := ([1, 1] : List Int)) (inner := [.int .i64 1, .int .i64 1]) (ok := fun _ => True) (okp := fun _ => True) ?hr ?hp (fun _ hk => hk) trivial (Below.refl _ _) (Nat.le_refl _) (by simp) ?_; (case hd => rfl); (case hg => rfl); (case hr => first | (go_simp; done) | (go_simp; rfl)); (case hp => exact (Reps.one (show Kd.M (Kd.int .i64) _ _ _ 1 [.int .i64 1] from rfl) (Reps.one (show Kd.M (Kd.int .i64) _ _ _ 1 [.int .i64 1] from rfl) (Reps.none _ _)))); intro v194 w6 ho7 hb hg_ hnew_; clear hg_ hnew_; (first | rw [← Ny193.out] at ho7 | (simp only [Int.reduceToNat] at ho7; rw [← Ny193.out] at ho7)); have n0_ := Aside0.mk (Kd.R_below (by (with_reducible repeat (first | apply Kd.R_alloc | apply Kd.R_drewN | apply Kd.R_drew)); exact HO189.out) hb); have n1_ := Aside0.mk (Kd.R_below (by (with_reducible repeat (first | apply Kd.R_alloc | apply Kd.R_drewN | apply Kd.R_drew)); exact HO192.out) hb); have n2_ := Aside0.mk (Kd.R_lower ho7 (below_size (by repeat (first | (with_reducible first | exact HB.out | apply below_alloc | apply pw_below_drewN | apply below_drew1 | refine below_set ?_ GE184.out) | exact HB.out)))); have n3_ := Aside0.mk (blkb hb BK184.out); have n4_ := Aside0.mk (below_step (by repeat (first | (with_reducible first | exact HB.out | apply below_alloc | apply pw_below_drewN | apply below_drew1 | refine below_set ?_ GE184.out) | exact HB.out)) hb); clear HO189; clear HO192; clear BK184; clear HB; have HO189 := n0_; have HO192 := n1_; have HO195 := n2_; have BK184 := n3_; have HB := n4_; clear n0_ n1_ n2_ n3_ n4_; clear hb ho7; obtain ⟨Ao8, co8, eo8⟩ := Kd.R_slice HO195.out; subst eo8; obtain ⟨Ao9, co9, eo9⟩ := Kd.R_slice HO192.out; subst eo9; obtain ⟨Ao10, co10, eo10⟩ := Kd.R_slice HO189.out; subst eo10) | ((with_reducible refine gate_dst (N := 5) rfl ?_); refine box_event ?hg (N := 5) ?hd (cs := #[.int .i64 0, .int .i64 0, .slice none 0 0, .slice none 0 0, .int .i64 0, .int .i64 0, .bool false, .int .i64 0, .int .i64 0, .int .i64 0, .bool false, .bool false, .bool false, .slice none 0 0, .int .i64 0, .int .i64 0, .int .i64 0, .slice none 0 0, .int .i64 0, .int .i64 0]) (t := 64) ?hr ?_; (case hd => rfl); (case hg => rfl); (case hr => first | (go_simp; done) | (go_simp; rfl)); intro gb196 hg w11 hbox hb; have n0_ := Aside0.mk (Kd.R_below (by (with_reducible repeat (first | apply Kd.R_alloc | apply Kd.R_drewN | apply Kd.R_drew)); exact HO189.out) hb); have n1_ := Aside0.mk (Kd.R_below (by (with_reducible repeat (first | apply Kd.R_alloc | apply Kd.R_drewN | apply Kd.R_drew)); exact HO192.out) hb); have n2_ := Aside0.mk (Kd.R_below (by (with_reducible repeat (first | apply Kd.R_alloc | apply Kd.R_drewN | apply Kd.R_drew)); exact HO195.out) hb); have n3_ := Aside0.mk (blkb hb BK184.out); have n4_ := Aside0.mk (below_step (by repeat (first | (with_reducible first | exact HB.out | apply below_alloc | apply pw_below_drewN | apply below_drew1 | refine below_set ?_ GE184.out) | exact HB.out)) hb); have n5_ := Aside0.mk (hbox); have n6_ := Aside0.mk ((by rw [hg]; exact (below_size (by repeat (first | (with_reducible first | exact HB.out | apply below_alloc | apply pw_below_drewN | apply below_drew1 | refine below_set ?_ GE184.out) | exact HB.out))) : w.heap.size ≤ gb196)); have n7_ := Aside0.mk ((by rw [hg]; exact (below_size (by repeat (first | (with_reducible first | exact HB.out | apply below_alloc | apply pw_below_drewN | apply below_drew1 | refine below_set ?_ GE184.out) | exact HB.out))) : w.heap.size ≤ gb196)); have n8_ := Aside0.mk ((blkn hg BK184.out)); have n9_ := Aside0.mk ((blkm hg BK184.out)); clear HO189; clear HO192; clear HO195; clear BK184; clear HB; have HO189 := n0_; have HO192 := n1_; have HO195 := n2_; have BK184 := n3_; have HB := n4_; have BK196 := n5_; have GW196 := n6_; have GE196 := n7_; have NB184_196 := n8_; have NB196_184 := n9_; clear n0_ n1_ n2_ n3_ n4_ n5_ n6_ n7_ n8_ n9_; clear hb hbox hg; have hnb12 := NB196_184.out; have hnc12 := NB184_196.out; have hcz13_0 : w11.cell? ⟨gb196, 0, none⟩ = some (.int .i64 0) := (blk_cell BK196.out 0).trans rfl; have hcz13_1 : w11.cell? ⟨gb196, 1, none⟩ = some (.int .i64 0) := (blk_cell BK196.out 1).trans rfl; have hcz13_2 : w11.cell? ⟨gb196, 2, none⟩ = some (.slice none 0 0) := (blk_cell BK196.out 2).trans rfl; have hcz13_3 : w11.cell? ⟨gb196, 3, none⟩ = some (.slice none 0 0) := (blk_cell BK196.out 3).trans rfl; have hcz13_4 : w11.cell? ⟨gb196, 4, none⟩ = some (.int .i64 0) := (blk_cell BK196.out 4).trans rfl; have hcz13_5 : w11.cell? ⟨gb196, 5, none⟩ = some (.int .i64 0) := (blk_cell BK196.out 5).trans rfl; have hcz13_6 : w11.cell? ⟨gb196, 6, none⟩ = some (.bool false) := (blk_cell BK196.out 6).trans rfl; have hcz13_7 : w11.cell? ⟨gb196, 7, none⟩ = some (.int .i64 0) := (blk_cell BK196.out 7).trans rfl; have hcz13_8 : w11.cell? ⟨gb196, 8, none⟩ = some (.int .i64 0) := (blk_cell BK196.out 8).trans rfl; have hcz13_9 : w11.cell? ⟨gb196, 9, none⟩ = some (.int .i64 0) := (blk_cell BK196.out 9).trans rfl; have hcz13_10 : w11.cell? ⟨gb196, 10, none⟩ = some (.bool false) := (blk_cell BK196.out 10).trans rfl; have hcz13_11 : w11.cell? ⟨gb196, 11, none⟩ = some (.bool false) := (blk_cell BK196.out 11).trans rfl; have hcz13_12 : w11.cell? ⟨gb196, 12, none⟩ = some (.bool false) := (blk_cell BK196.out 12).trans rfl; have hcz13_13 : w11.cell? ⟨gb196, 13, none⟩ = some (.slice none 0 0) := (blk_cell BK196.out 13).trans rfl; have hcz13_14 : w11.cell? ⟨gb196, 14, none⟩ = some (.int .i64 0) := (blk_cell BK196.out 14).trans rfl; have hcz13_15 : w11.cell? ⟨gb196, 15, none⟩ = some (.int .i64 0) := (blk_cell BK196.out 15).trans rfl; have hcz13_16 : w11.cell? ⟨gb196, 16, none⟩ = some (.int .i64 0) := (blk_cell BK196.out 16).trans rfl; have hcz13_17 : w11.cell? ⟨gb196, 17, none⟩ = some (.slice none 0 0) := (blk_cell BK196.out 17).trans rfl; have hcz13_18 : w11.cell? ⟨gb196, 18, none⟩ = some (.int .i64 0) := (blk_cell BK196.out 18).trans rfl; have hcz13_19 : w11.cell? ⟨gb196, 19, none⟩ = some (.int .i64 0) := (blk_cell BK196.out 19).trans rfl; have hfz13_0 := blk_frozen BK196.out 0; have hfz13_1 := blk_frozen BK196.out 1; have hfz13_2 := blk_frozen BK196.out 2; have hfz13_3 := blk_frozen BK196.out 3; have hfz13_4 := blk_frozen BK196.out 4; have hfz13_5 := blk_frozen BK196.out 5; have hfz13_6 := blk_frozen BK196.out 6; have hfz13_7 := blk_frozen BK196.out 7; have hfz13_8 := blk_frozen BK196.out 8; have hfz13_9 := blk_frozen BK196.out 9; have hfz13_10 := blk_frozen BK196.out 10; have hfz13_11 := blk_frozen BK196.out 11; have hfz13_12 := blk_frozen BK196.out 12; have hfz13_13 := blk_frozen BK196.out 13; have hfz13_14 := blk_frozen BK196.out 14; have hfz13_15 := blk_frozen BK196.out 15; have hfz13_16 := blk_frozen BK196.out 16; have hfz13_17 := blk_frozen BK196.out 17; have hfz13_18 := blk_frozen BK196.out 18; have hfz13_19 := blk_frozen BK196.out 19) | ((with_reducible refine gate_store (t := 64) (p := 5) rfl ?_); refine Go.Proofs.YtagipnepckgdfaaCells.store_whole (ty := 64) (x := .tmp 5) (y := ?vo_w14) (g := gb196) (cells := [.int .i64 t185, .int .i64 t186, .slice Ao10 t187.length co10, .slice Ao9 t190.length co9, .int .i64 0, .int .i64 0, .bool false, .int .i64 0, .int .i64 0, .int .i64 (wrap64 (a0 - 1)), .bool false, .bool true, .bool false, .slice none 0 0, .int .i64 0, .int .i64 0, .int .i64 0, .slice Ao8 y193.length co8, .int .i64 0, .int .i64 0]) (t := 64) (old := [.int .i64 0, .int .i64 0, .slice none 0 0, .slice none 0 0, .int .i64 0, .int .i64 0, .bool false, .int .i64 0, .int .i64 0, .int .i64 0, .bool false, .bool false, .bool false, .slice none 0 0, .int .i64 0, .int .i64 0, .int .i64 0, .slice none 0 0, .int .i64 0, .int .i64 0]) ?hg ?ho ?hx ?hy ?hn ?hb ?hi rfl rfl ?_; (case ho => rfl); (case hg => rfl); (case hn => rfl); (case hx => rfl); (case hy => first | rfl | (go_simp; done) | (simp [*]; done)); (case hb => exact (by (with_reducible repeat (first | refine blk_drewN ?_ _ | refine blk_drew ?_ | refine blk_alloc ?_ _)); exact BK196.out)); (case hi => kernel_rfl); intro w14 hob_ hbk hfar hbel; have n0_ : Aside0 (Kd.R k107 107 w14 w.heap.size (fun k_ => some k_ ≠ (.slice Ao9 t190.length co9 : Value).ownBlock) (.slice Ao10 t187.length co10) t187) := ⟨Go.Proofs.YtagipnepckgdfaaCells.R_whole (by (with_reducible repeat (first | apply Kd.R_alloc | apply Kd.R_drewN | apply Kd.R_drew)); exact HO189.out) hob_ (by decide) hfar⟩; have n1_ : Aside0 (Kd.R k107 107 w14 w.heap.size (fun k_ => some k_ ≠ (.slice Ao10 t187.length co10 : Value).ownBlock) (.slice Ao9 t190.length co9) t190) := ⟨Go.Proofs.YtagipnepckgdfaaCells.R_whole (by (with_reducible repeat (first | apply Kd.R_alloc | apply Kd.R_drewN | apply Kd.R_drew)); exact HO192.out) hob_ (by decide) hfar⟩; have n2_ : Aside0 (Kd.R (Kd.int .i64) 2 w14 w.heap.size (fun _ => True) (.slice Ao8 y193.length co8) y193) := ⟨Go.Proofs.YtagipnepckgdfaaCells.R_whole (by (with_reducible repeat (first | apply Kd.R_alloc | apply Kd.R_drewN | apply Kd.R_drew)); exact HO195.out) hob_ (by decide) hfar⟩; have n3_ : Aside0 (w14.heap[gb184]? = some (.cells #[.int .i64 0, .int .i64 0, .slice none 0 0, .slice none 0 0, .int .i64 0, .int .i64 0, .bool false, .int .i64 0, .int .i64 0, .int .i64 0, .bool false, .bool false, .bool false, .slice none 0 0, .int .i64 0, .int .i64 0, .int .i64 0, .slice none 0 0, .int .i64 0, .int .i64 0] 64 (0, 0))) := ⟨(hfar _ NB184_196.out).trans (by (with_reducible repeat (first | refine blk_drewN ?_ _ | refine blk_drew ?_ | refine blk_alloc ?_ _)); exact BK184.out)⟩; have n4_ : Aside0 (w14.heap[gb196]? = some (.cells #[.int .i64 t185, .int .i64 t186, .slice Ao10 t187.length co10, .slice Ao9 t190.length co9, .int .i64 0, .int .i64 0, .bool false, .int .i64 0, .int .i64 0, .int .i64 (wrap64 (a0 - 1)), .bool false, .bool true, .bool false, .slice none 0 0, .int .i64 0, .int .i64 0, .int .i64 0, .slice Ao8 y193.length co8, .int .i64 0, .int .i64 0] 64 (0, 0))) := ⟨hbk⟩; have n5_ : Aside0 (Below w.heap.size w w14) := ⟨hbel _ _ GE196.out (by repeat (first | (with_reducible first | exact HB.out | apply below_alloc | apply pw_below_drewN | apply below_drew1 | refine below_set ?_ GE184.out | refine below_set ?_ GE196.out) | exact HB.out))⟩; clear hob_ hbk hfar hbel; clear HO189; clear HO192; clear HO195; clear BK184; clear BK196; clear HB; have HO189 := n0_; have HO192 := n1_; have HO195 := n2_; have BK184 := n3_; have BK196 := n4_; have HB := n5_; clear n0_ n1_ n2_ n3_ n4_ n5_))
 go_loopg [15] k (fun kq v15 w' => ∃ (x15_1 : Int) (x197013_1 : List Bool) (u197013 : Value), v15 = .int .i64 x15_1 ∧ Aside0 (impl_newScreen.l0 kq a1 x15_1 t185 t186 t187 t190 0 0 false 0 0 (wrap64 (a0 - 1)) false true false x197013_1 0 0 0 y193 0 0 = some (r1, r2, r3, r4, r5, r6, r7, r8, r9, r10, r11, r12, r13, r14, r15, r16, r17, r18, r19, r20)) ∧ Aside0 (kq ≤ k) ∧ Aside0 (Kd.R k107 107 w' w.heap.size (fun k_ => some k_ ≠ ((.slice Ao9 t190.length co9) : Value).ownBlock) (.slice Ao10 t187.length co10) t187) ∧ Aside0 (Kd.R k107 107 w' w.heap.size (fun k_ => some k_ ≠ ((.slice Ao10 t187.length co10) : Value).ownBlock) (.slice Ao9 t190.length co9) t190) ∧ Aside0 (Kd.R Kd.bool 4 w' w.heap.size (fun _ => True) u197013 x197013_1) ∧ Aside0 (Kd.R (Kd.int .i64) 2 w' w.heap.size (fun _ => True) (.slice Ao8 y193.length co8) y193) ∧ Aside0 (w'.heap[gb184]? = some (.cells #[.int .i64 0, .int .i64 0, (.slice none 0 0), (.slice none 0 0), .int .i64 0, .int .i64 0, .bool false, .int .i64 0, .int .i64 0, .int .i64 0, .bool false, .bool false, .bool false, (.slice none 0 0), .int .i64 0, .int .i64 0, .int .i64 0, (.slice none 0 0), .int .i64 0, .int .i64 0] 64 (0, 0))) ∧ Aside0 (w'.heap[gb196]? = some (.cells #[.int .i64 t185, .int .i64 t186, (.slice Ao10 t187.length co10), (.slice Ao9 t190.length co9), .int .i64 0, .int .i64 0, .bool false, .int .i64 0, .int .i64 0, .int .i64 (wrap64 (a0 - 1)), .bool false, .bool true, .bool false, u197013, .int .i64 0, .int .i64 0, .int .i64 0, (.slice Ao8 y193.length co8), .int .i64 0, .int .i64 0] 64 (0, 0))) ∧ Aside0 (Below w.heap.size w w'))
 case atStart => exact ⟨(0), (([] : List Bool)), (.slice none 0 0), (by first | rfl | (simp; done) | (simp [*]; done)), H', ⟨Nat.le_refl _⟩, ⟨by (with_reducible repeat (first | apply Kd.R_alloc | apply Kd.R_drewN | apply Kd.R_drew)); exact HO189.out⟩, ⟨by (with_reducible repeat (first | apply Kd.R_alloc | apply Kd.R_drewN | apply Kd.R_drew)); exact HO192.out⟩, ⟨by first | exact Kd.R_nil _ _ _ _ _ | exact Kd.N_nil _ _ _ _ _ | exact Kd.V_nil _ _ _ _ _ | exact Kd.Q_nil _ _ _ _ _ | exact Kd.S_nil _ _ _ _ _⟩, ⟨by (with_reducible repeat (first | apply Kd.R_alloc | apply Kd.R_drewN | apply Kd.R_drew)); exact HO195.out⟩, ⟨by (with_reducible repeat (first | refine blk_drewN ?_ _ | refine blk_drew ?_ | refine blk_alloc ?_ _)); exact BK184.out⟩, ⟨by (with_reducible repeat (first | refine blk_drewN ?_ _ | refine blk_drew ?_ | refine blk_alloc ?_ _)); exact BK196.out⟩, ⟨by repeat (first | (with_reducible first | exact HB.out | apply below_alloc | apply pw_below_drewN | apply below_drew1 | refine below_set ?_ GE184.out | refine below_set ?_ GE196.out) | exact HB.out)⟩⟩
 case round =>
  clear H'
  try clear c1
  try clear p2
  try clear p6
  try clear c8
  try clear c9
  try clear c12
  try clear hcz13_0
  try clear hcz13_1
  try clear hcz13_10
  try clear hcz13_11
  try clear hcz13_12
  try clear hcz13_13
  try clear hcz13_14
  try clear hcz13_15
  try clear hcz13_16
  try clear hcz13_17
  try clear hcz13_18
  try clear hcz13_19
  try clear hcz13_2
  try clear hcz13_3
  try clear hcz13_4
  try clear hcz13_5
  try clear hcz13_6
  try clear hcz13_7
  try clear hcz13_8
  try clear hcz13_9
  try clear hfz13_0
  try clear hfz13_1
  try clear hfz13_10
  try clear hfz13_11
  try clear hfz13_12
  try clear hfz13_13
  try clear hfz13_14
  try clear hfz13_15
  try clear hfz13_16
  try clear hfz13_17
  try clear hfz13_18
  try clear hfz13_19
  try clear hfz13_2
  try clear hfz13_3
  try clear hfz13_4
  try clear hfz13_5
  try clear hfz13_6
  try clear hfz13_7
  try clear hfz13_8
  try clear hfz13_9
  obtain ⟨x15_1, x197013_1, u197013, rfl, HA, HK1, HO_197002, HO_197003, HO_197013, HO_197017, BK184, BK196, HB⟩ := hrel
  cases gk with
  | zero => exact absurd HA.out (by simp [impl_newScreen.l0])
  | succ k1 =>
   have H := HA.out
   clear HA
   simp only [impl_newScreen.l0] at H
   by_cases c15 : x15_1 < a1
   ·rw [if_pos c15] at H
    have c15b0 : decide (x15_1 < a1) = true := decide_eq_true c15
    clear c15
    replace H := Option.bind_eq_some_iff.mp H
    obtain ⟨t197, A160, H⟩ := H
    replace H : (if x197013_1.length < 140737488355328 then (impl_newScreen.l0 k1 a1 (wrap64 (x15_1 + 1)) t185 t186 t187 t190 0 0 false 0 0 (wrap64 (a0 - 1)) false true false (x197013_1 ++ [t197]) 0 0 0 y193 0 0) else (none)) = some (r1, r2, r3, r4, r5, r6, r7, r8, r9, r10, r11, r12, r13, r14, r15, r16, r17, r18, r19, r20) := H
    have A16 := Aside0.mk A160
    clear A160
    by_cases c17 : x197013_1.length < 140737488355328
    ·rw [if_pos c17] at H
     have LMc17 := Aside0.mk c17
     clear c17
     obtain ⟨y198, hy198⟩ : ∃ y_ : List Bool, y_ = (x197013_1 ++ [t197]) := ⟨_, rfl⟩
     replace H : (impl_newScreen.l0 k1 a1 (wrap64 (x15_1 + 1)) t185 t186 t187 t190 0 0 false 0 0 (wrap64 (a0 - 1)) false true false y198 0 0 0 y193 0 0) = some (r1, r2, r3, r4, r5, r6, r7, r8, r9, r10, r11, r12, r13, r14, r15, r16, r17, r18, r19, r20) := by first | (rw [hy198]; with_reducible exact H) | (have H2_ := (Option.bind_some _ _).symm.trans H; rw [hy198]; with_reducible exact H2_) | (have H2_ := (Option.bind_some _ _).symm.trans H; with_reducible exact H2_) | with_reducible exact H | (rw [hy198]; exact H) | exact H
     have Ny198 := Aside0.mk hy198
     clear hy198
     have H' := Aside0.mk H
     clear H
     try go_wp2_with (first | ((with_reducible refine Go.Proofs.YtagipnepckgdfaaCells.gate_load (t := 64) (p := 5) rfl ?_); refine Go.Proofs.YtagipnepckgdfaaCells.load_whole (ty := 64) (p := 5) (g := gb196) (t := 64) ?hg ?ho ?hx (by (with_reducible repeat (first | refine blk_drewN ?_ _ | refine blk_drew ?_ | refine blk_alloc ?_ _)); exact BK196.out) Try.underlying64 rfl ?hi ?_; (case ho => rfl); (case hg => rfl); (case hx => rfl); (case hi => kernel_rfl)))
     have n0_ := Aside0.mk (Kd.R_drew HO_197002.out)
     have n1_ := Aside0.mk (Kd.R_drew HO_197003.out)
     have n2_ := Aside0.mk (Kd.R_drew HO_197013.out)
     have n3_ := Aside0.mk (Kd.R_drew HO_197017.out)
     have n4_ := Aside0.mk (blk_drew BK184.out)
     have n5_ := Aside0.mk (blk_drew BK196.out)
     have n6_ := Aside0.mk (below_drew1 HB.out)
     clear HO_197002
     clear HO_197003
     clear HO_197013
     clear HO_197017
     clear BK184
     clear BK196
     clear HB
     have HO_197002 := n0_
     have HO_197003 := n1_
     have HO_197013 := n2_
     have HO_197017 := n3_
     have BK184 := n4_
     have BK196 := n5_
     have HB := n6_
     clear n0_ n1_ n2_ n3_ n4_ n5_ n6_
     refine start_ (n := 8) (S := fun w' => w'.cell? ⟨gb196, 0, none⟩ = some (.int .i64 t185) ∧ w'.cell? ⟨gb196, 1, none⟩ = some (.int .i64 t186) ∧ w'.cell? ⟨gb196, 2, none⟩ = some (.slice Ao10 t187.length co10) ∧ w'.cell? ⟨gb196, 3, none⟩ = some (.slice Ao9 t190.length co9) ∧ w'.cell? ⟨gb196, 4, none⟩ = some (.int .i64 0) ∧ w'.cell? ⟨gb196, 5, none⟩ = some (.int .i64 0) ∧ w'.cell? ⟨gb196, 6, none⟩ = some (.bool false) ∧ w'.cell? ⟨gb196, 7, none⟩ = some (.int .i64 0) ∧ w'.cell? ⟨gb196, 8, none⟩ = some (.int .i64 0) ∧ w'.cell? ⟨gb196, 9, none⟩ = some (.int .i64 (wrap64 (a0 - 1))) ∧ w'.cell? ⟨gb196, 10, none⟩ = some (.bool false) ∧ w'.cell? ⟨gb196, 11, none⟩ = some (.bool true) ∧ w'.cell? ⟨gb196, 12, none⟩ = some (.bool false) ∧ w'.cell? ⟨gb196, 13, none⟩ = some (u197013) ∧ w'.cell? ⟨gb196, 14, none⟩ = some (.int .i64 0) ∧ w'.cell? ⟨gb196, 15, none⟩ = some (.int .i64 0) ∧ w'.cell? ⟨gb196, 16, none⟩ = some (.int .i64 0) ∧ w'.cell? ⟨gb196, 17, none⟩ = some (.slice Ao8 y193.length co8) ∧ w'.cell? ⟨gb196, 18, none⟩ = some (.int .i64 0) ∧ w'.cell? ⟨gb196, 19, none⟩ = some (.int .i64 0)) (ds := [7]) #[false, false, false, false, false, false, false, false] (by kernel_rfl) rfl rfl ⟨(blk_cell BK196.out 0).trans rfl, (blk_cell BK196.out 1).trans rfl, (blk_cell BK196.out 2).trans rfl, (blk_cell BK196.out 3).trans rfl, (blk_cell BK196.out 4).trans rfl, (blk_cell BK196.out 5).trans rfl, (blk_cell BK196.out 6).trans rfl, (blk_cell BK196.out 7).trans rfl, (blk_cell BK196.out 8).trans rfl, (blk_cell BK196.out 9).trans rfl, (blk_cell BK196.out 10).trans rfl, (blk_cell BK196.out 11).trans rfl, (blk_cell BK196.out 12).trans rfl, (blk_cell BK196.out 13).trans rfl, (blk_cell BK196.out 14).trans rfl, (blk_cell BK196.out 15).trans rfl, (blk_cell BK196.out 16).trans rfl, (blk_cell BK196.out 17).trans rfl, (blk_cell BK196.out 18).trans rfl, (blk_cell BK196.out 19).trans rfl⟩ (fun hHeld => ?_); refine with_tabW impl_newScreen.tab5 impl_newScreen.bits5 (fun HT_ HW_ => ?_)
     generalize wr.drew = w18 at HO_197002 HO_197003 HO_197013 HO_197017 BK184 BK196 HB hHeld ⊢
     refine pure_ (i := 0) (N := some 18) (v := ?_) (a' := ?_) #[true, false, false, false, false, false, false, false] rfl rfl (any_of HT_.out (by kernel_rfl)) (fun _ _ _ h => h) (Or.inl ⟨by rfl, ?_⟩) ?_ ?_
     rotate_left
     ·intro w'
      go_simp
      with_reducible rfl
     rotate_left
     ·simp only [Act.put, List.setIfInBounds_toArray, List.set_cons_zero, List.set_cons_succ, i64_w, i32_w]
      rfl
     refine pure_ (i := 2) (N := some 20) (v := ?_) (a' := ?_) #[true, false, true, false, false, false, false, false] rfl rfl (any_of HT_.out (by kernel_rfl)) (fun _ _ _ h => h) (Or.inl ⟨by rfl, ?_⟩) ?_ ?_
     rotate_left
     ·intro w'
      go_simp
      with_reducible rfl
     rotate_left
     ·simp only [Act.put, List.setIfInBounds_toArray, List.set_cons_zero, List.set_cons_succ, i64_w, i32_w]
      rfl
     refine take_ (i := 1) (N := some 19) (v := ?_) (a' := ?_) #[true, true, true, false, false, false, false, false] rfl rfl (take_ofW HT_.out HW_.out (by kernel_rfl)) (fun _ _ _ h => h) (Or.inl ⟨by rfl, ?_⟩) hHeld ?_ ?_
     rotate_left
     ·rintro w' ⟨s0, s1, s2, s3, s4, s5, s6, s7, s8, s9, s10, s11, s12, s13, s14, s15, s16, s17, s18, s19⟩
      go_simp
      with_reducible rfl
     rotate_left
     ·simp only [Act.put, List.setIfInBounds_toArray, List.set_cons_zero, List.set_cons_succ, i64_w, i32_w]
      rfl
     refine one_ (i := 3) (N := some 21) #[true, true, true, true, false, false, false, false] rfl rfl (one_of HT_.out (by kernel_rfl)) (by decide) (fun K hK => ?_)
     refine goes_ Try.func121 (by kernel_rfl) rfl #[.int .i64 x15_1] (by rfl) rfl rfl (by (try simp only [List.map_toArray, List.map_cons, List.map_nil]); first | done | rfl | (simp only [List.length_drop, List.length_take]; rfl)) ?_
     with_reducible refine (impl_isTab.calls x15_1 t197 _ A16.out).mono ?_
     rintro e w' ⟨rfl, ⟨nd, rfl⟩⟩
     refine ⟨_, rfl, ?_⟩
     refine hK.out _ _ ⟨(blk_cell BK196.out 0).trans rfl, (blk_cell BK196.out 1).trans rfl, (blk_cell BK196.out 2).trans rfl, (blk_cell BK196.out 3).trans rfl, (blk_cell BK196.out 4).trans rfl, (blk_cell BK196.out 5).trans rfl, (blk_cell BK196.out 6).trans rfl, (blk_cell BK196.out 7).trans rfl, (blk_cell BK196.out 8).trans rfl, (blk_cell BK196.out 9).trans rfl, (blk_cell BK196.out 10).trans rfl, (blk_cell BK196.out 11).trans rfl, (blk_cell BK196.out 12).trans rfl, (blk_cell BK196.out 13).trans rfl, (blk_cell BK196.out 14).trans rfl, (blk_cell BK196.out 15).trans rfl, (blk_cell BK196.out 16).trans rfl, (blk_cell BK196.out 17).trans rfl, (blk_cell BK196.out 18).trans rfl, (blk_cell BK196.out 19).trans rfl⟩ (fun hHeld => ?_)
     clear hK K
     refine norm_ (a' := ?_) ?_ ?_
     rotate_left
     ·show Act.put _ (some 21) _ = _
      simp only [Act.put, List.setIfInBounds_toArray, List.set_cons_zero, List.set_cons_succ, i64_w, i32_w]
      rfl
     refine one_ (i := 4) (N := some 22) #[true, true, true, true, true, false, false, false] rfl rfl (one_of HT_.out (by kernel_rfl)) (by decide) (fun K hK => ?_)
     refine value_ (w1 := ?_) (v := ?_) (by rfl) rfl ?_ ?_
     rotate_left 2
     ·go_simp
      constructor
      ·rfl
      ·rfl
     refine hK.out _ _ ⟨(blk_cell (blk_alloc BK196.out _) 0).trans rfl, (blk_cell (blk_alloc BK196.out _) 1).trans rfl, (blk_cell (blk_alloc BK196.out _) 2).trans rfl, (blk_cell (blk_alloc BK196.out _) 3).trans rfl, (blk_cell (blk_alloc BK196.out _) 4).trans rfl, (blk_cell (blk_alloc BK196.out _) 5).trans rfl, (blk_cell (blk_alloc BK196.out _) 6).trans rfl, (blk_cell (blk_alloc BK196.out _) 7).trans rfl, (blk_cell (blk_alloc BK196.out _) 8).trans rfl, (blk_cell (blk_alloc BK196.out _) 9).trans rfl, (blk_cell (blk_alloc BK196.out _) 10).trans rfl, (blk_cell (blk_alloc BK196.out _) 11).trans rfl, (blk_cell (blk_alloc BK196.out _) 12).trans rfl, (blk_cell (blk_alloc BK196.out _) 13).trans rfl, (blk_cell (blk_alloc BK196.out _) 14).trans rfl, (blk_cell (blk_alloc BK196.out _) 15).trans rfl, (blk_cell (blk_alloc BK196.out _) 16).trans rfl, (blk_cell (blk_alloc BK196.out _) 17).trans rfl, (blk_cell (blk_alloc BK196.out _) 18).trans rfl, (blk_cell (blk_alloc BK196.out _) 19).trans rfl⟩ (fun hHeld => ?_)
     clear hK K
     refine norm_ (a' := ?_) ?_ ?_
     rotate_left
     ·show Act.put _ (some 22) _ = _
      simp only [Act.put, List.setIfInBounds_toArray, List.set_cons_zero, List.set_cons_succ, i64_w, i32_w]
      rfl
     refine one_ (i := 5) (N := some 23) #[true, true, true, true, true, true, false, false] rfl rfl (one_of HT_.out (by kernel_rfl)) (by decide) (fun K hK => ?_)
     refine Kd.R_append_step Kd.bool (w0 := w) w.heap.size (by rfl) (.tmp 19) (.tmp 22) 58 4 (.bool false) 1 rfl Try.underlying58 info4 rfl (by decide) (by omega) u197013 x197013_1 t197 [.bool t197] (fun _ => True) (fun _ => False) rfl rfl ?aP (fun _ hk => hk.elim) ?aF ?aO ?aB ?aS ?aL ?_
     (case aP => exact rfl)
     (case aB => exact (by repeat (first | (with_reducible first | exact HB.out | apply below_alloc | apply pw_below_drewN | apply below_drew1 | refine below_set ?_ GE184.out | refine below_set ?_ GE196.out) | exact HB.out)))
     (case aF => exact (fun _ _ => trivial))
     (case aO => exact (by (with_reducible repeat (first | apply Kd.R_alloc | apply Kd.R_drewN | apply Kd.R_drew)); exact HO_197013.out))
     (case aS => exact (below_size (by repeat (first | (with_reducible first | exact HB.out | apply below_alloc | apply pw_below_drewN | apply below_drew1 | refine below_set ?_ GE184.out | refine below_set ?_ GE196.out) | exact HB.out))))
     (case aL => have := LMc17.out; omega)
     intro v199 w19 ho hb hg hat
     rw [← Ny198.out] at ho
     have n0_ := Aside0.mk (Kd.R_over' (by (with_reducible repeat (first | apply Kd.R_alloc | apply Kd.R_drewN | apply Kd.R_drew)); exact HO_197002.out) (Kd.R_typed (by (with_reducible repeat (first | apply Kd.R_alloc | apply Kd.R_drewN | apply Kd.R_drew)); exact HO_197013.out)) (by decide) hg)
     have n1_ := Aside0.mk (Kd.R_over' (by (with_reducible repeat (first | apply Kd.R_alloc | apply Kd.R_drewN | apply Kd.R_drew)); exact HO_197003.out) (Kd.R_typed (by (with_reducible repeat (first | apply Kd.R_alloc | apply Kd.R_drewN | apply Kd.R_drew)); exact HO_197013.out)) (by decide) hg)
     have n2_ := Aside0.mk (Kd.R_over' (by (with_reducible repeat (first | apply Kd.R_alloc | apply Kd.R_drewN | apply Kd.R_drew)); exact HO_197017.out) (Kd.R_typed (by (with_reducible repeat (first | apply Kd.R_alloc | apply Kd.R_drewN | apply Kd.R_drew)); exact HO_197013.out)) (by decide) hg)
     have n3_ := Aside0.mk (blk_grown (g := gb184) (o := .cells #[.int .i64 0, .int .i64 0, .slice none 0 0, .slice none 0 0, .int .i64 0, .int .i64 0, .bool false, .int .i64 0, .int .i64 0, .int .i64 0, .bool false, .bool false, .bool false, .slice none 0 0, .int .i64 0, .int .i64 0, .int .i64 0, .slice none 0 0, .int .i64 0, .int .i64 0] 64 (0, 0)) (by (with_reducible repeat (first | refine blk_drewN ?_ _ | refine blk_drew ?_ | refine blk_alloc ?_ _)); exact BK184.out) hg (Kd.R_ne HO_197013.out BK184.out (by decide)))
     have n4_ := Aside0.mk (blk_grown (g := gb196) (o := .cells #[.int .i64 t185, .int .i64 t186, .slice Ao10 t187.length co10, .slice Ao9 t190.length co9, .int .i64 0, .int .i64 0, .bool false, .int .i64 0, .int .i64 0, .int .i64 (wrap64 (a0 - 1)), .bool false, .bool true, .bool false, u197013, .int .i64 0, .int .i64 0, .int .i64 0, .slice Ao8 y193.length co8, .int .i64 0, .int .i64 0] 64 (0, 0)) (by (with_reducible repeat (first | refine blk_drewN ?_ _ | refine blk_drew ?_ | refine blk_alloc ?_ _)); exact BK196.out) hg (Kd.R_ne HO_197013.out BK196.out (by decide)))
     have n5_ := Aside0.mk (hb)
     have n6_ := Aside0.mk (ho)
     clear HO_197002
     clear HO_197003
     clear HO_197017
     clear BK184
     clear BK196
     clear HB
     clear HO_197013
     have HO_197002 := n0_
     have HO_197003 := n1_
     have HO_197017 := n2_
     have BK184 := n3_
     have BK196 := n4_
     have HB := n5_
     have HO200 := n6_
     clear n0_ n1_ n2_ n3_ n4_ n5_ n6_
     clear ho hb hg hat
     obtain ⟨Ao20, co20, eo20⟩ := Kd.R_slice HO200.out
     (first | subst eo20 | (injection eo20 with f1_ f2_ f3_; have f4_ := f1_.symm; have f5_ := f3_.symm; clear f1_ f2_ f3_; subst f4_; subst f5_))
     refine hK.out _ _ ⟨(blk_cell BK196.out 0).trans rfl, (blk_cell BK196.out 1).trans rfl, (blk_cell BK196.out 2).trans rfl, (blk_cell BK196.out 3).trans rfl, (blk_cell BK196.out 4).trans rfl, (blk_cell BK196.out 5).trans rfl, (blk_cell BK196.out 6).trans rfl, (blk_cell BK196.out 7).trans rfl, (blk_cell BK196.out 8).trans rfl, (blk_cell BK196.out 9).trans rfl, (blk_cell BK196.out 10).trans rfl, (blk_cell BK196.out 11).trans rfl, (blk_cell BK196.out 12).trans rfl, (blk_cell BK196.out 13).trans rfl, (blk_cell BK196.out 14).trans rfl, (blk_cell BK196.out 15).trans rfl, (blk_cell BK196.out 16).trans rfl, (blk_cell BK196.out 17).trans rfl, (blk_cell BK196.out 18).trans rfl, (blk_cell BK196.out 19).trans rfl⟩ (fun hHeld => ?_)
     clear hK K
     refine norm_ (a' := ?_) ?_ ?_
     rotate_left
     ·show Act.put _ (some 23) _ = _
      simp only [Act.put, List.setIfInBounds_toArray, List.set_cons_zero, List.set_cons_succ, i64_w, i32_w]
      rfl
     refine pure_ (i := 6) (N := some 24) (v := ?_) (a' := ?_) #[true, true, true, true, true, true, true, false] rfl rfl (any_of HT_.out (by kernel_rfl)) (fun _ _ _ h => h) (Or.inl ⟨by rfl, ?_⟩) ?_ ?_
     rotate_left
     ·intro w'
      go_simp
      with_reducible rfl
     rotate_left
     ·simp only [Act.put, List.setIfInBounds_toArray, List.set_cons_zero, List.set_cons_succ, i64_w, i32_w]
      rfl
     refine last_ (i := 7) (N := none) #[true, true, true, true, true, true, true, true] rfl rfl (one_of HT_.out (by kernel_rfl)) (by decide) (fun K hK => ?_)
     have hs21 : w19.cell? ⟨gb196, 13, none⟩ = some (u197013) := (blk_cell BK196.out 13).trans rfl
     have hfs21 := blk_frozen BK196.out 13
     have hns21_0 := NB184_196.out
     have hms21_0 := NB196_184.out
     refine skip_ (w1 := ?_) (by rfl) rfl ?_ ?_
     rotate_left
     ·go_simp
      rfl
     refine hK.out _ _ ?_
     clear hK K
     refine done_ (done_of HT_.out (by kernel_rfl)) ?_
     try go_wp2_with (first | ((with_reducible refine Go.Proofs.YtagipnepckgdfaaCells.gate_load (t := 64) (p := 5) rfl ?_); refine Go.Proofs.YtagipnepckgdfaaCells.load_whole (ty := 64) (p := 5) (g := gb196) (t := 64) ?hg ?ho ?hx (by (with_reducible repeat (first | refine blk_drewN ?_ _ | refine blk_drew ?_ | refine blk_alloc ?_ _)); exact BK196.out) Try.underlying64 rfl ?hi ?_; (case ho => rfl); (case hg => rfl); (case hx => rfl); (case hi => kernel_rfl)))
     go_roundg k1
     case measure => have := HK1.out; omega
     case rel => exact ⟨(wrap64 (x15_1 + 1)), (y198), (.slice Ao20 y198.length co20), (by first | rfl | (simp; done) | (simp [*]; done)), H', ⟨by have := HK1.out; omega⟩, ⟨by (with_reducible repeat (first | apply Kd.R_alloc | apply Kd.R_drewN | apply Kd.R_drew)); exact Kd.R_mono (Kd.R_far (p := ⟨gb196, 13, none⟩) (Kd.R_types HO_197002.out BK196.out (by decide)) (fun _ hk => hk.2) (.slice Ao20 y198.length co20)) (fun _ hk => hk.1)⟩, ⟨by (with_reducible repeat (first | apply Kd.R_alloc | apply Kd.R_drewN | apply Kd.R_drew)); exact Kd.R_mono (Kd.R_far (p := ⟨gb196, 13, none⟩) (Kd.R_types HO_197003.out BK196.out (by decide)) (fun _ hk => hk.2) (.slice Ao20 y198.length co20)) (fun _ hk => hk.1)⟩, ⟨by (with_reducible repeat (first | apply Kd.R_alloc | apply Kd.R_drewN | apply Kd.R_drew)); exact Kd.R_mono (Kd.R_far (p := ⟨gb196, 13, none⟩) (Kd.R_types HO200.out BK196.out (by decide)) (fun _ hk => hk.2) (.slice Ao20 y198.length co20)) (fun _ hk => trivial)⟩, ⟨by (with_reducible repeat (first | apply Kd.R_alloc | apply Kd.R_drewN | apply Kd.R_drew)); exact Kd.R_mono (Kd.R_far (p := ⟨gb196, 13, none⟩) (Kd.R_types HO_197017.out BK196.out (by decide)) (fun _ hk => hk.2) (.slice Ao20 y198.length co20)) (fun _ hk => trivial)⟩, ⟨by (with_reducible repeat (first | refine blk_drewN ?_ _ | refine blk_drew ?_ | refine blk_alloc ?_ _)); refine blk_far ?_ NB184_196.out _; (with_reducible repeat (first | refine blk_drewN ?_ _ | refine blk_drew ?_ | refine blk_alloc ?_ _)); exact BK184.out⟩, ⟨by (with_reducible repeat (first | refine blk_drewN ?_ _ | refine blk_drew ?_ | refine blk_alloc ?_ _)); refine blk_put (cs := #[.int .i64 t185, .int .i64 t186, .slice Ao10 t187.length co10, .slice Ao9 t190.length co9, .int .i64 0, .int .i64 0, .bool false, .int .i64 0, .int .i64 0, .int .i64 (wrap64 (a0 - 1)), .bool false, .bool true, .bool false, u197013, .int .i64 0, .int .i64 0, .int .i64 0, .slice Ao8 y193.length co8, .int .i64 0, .int .i64 0]) ?_ 13 _ rfl; (with_reducible repeat (first | refine blk_drewN ?_ _ | refine blk_drew ?_ | refine blk_alloc ?_ _)); exact BK196.out⟩, ⟨by repeat (first | (with_reducible first | exact HB.out | apply below_alloc | apply pw_below_drewN | apply below_drew1 | refine below_set ?_ GE184.out | refine below_set ?_ GE196.out) | exact HB.out)⟩⟩
    ·rw [if_neg c17] at H
     exact absurd H (by simp)
   ·rw [if_neg c15] at H
    have c15b0 : decide (x15_1 < a1) = false := decide_eq_false c15
    clear c15
    simp only [Option.some.injEq, Prod.mk.injEq] at H
    obtain ⟨rfl, rfl, rfl, rfl, rfl, rfl, rfl, rfl, rfl, rfl, rfl, rfl, rfl, rfl, rfl, rfl, rfl, rfl, rfl, rfl⟩ := H
    have hnb22 := NB196_184.out
    have hnc22 := NB184_196.out
    have hcz23_0 : wr.cell? ⟨gb196, 0, none⟩ = some (.int .i64 t185) := (blk_cell BK196.out 0).trans rfl
    have hcz23_1 : wr.cell? ⟨gb196, 1, none⟩ = some (.int .i64 t186) := (blk_cell BK196.out 1).trans rfl
    have hcz23_2 : wr.cell? ⟨gb196, 2, none⟩ = some (.slice Ao10 t187.length co10) := (blk_cell BK196.out 2).trans rfl
    have hcz23_3 : wr.cell? ⟨gb196, 3, none⟩ = some (.slice Ao9 t190.length co9) := (blk_cell BK196.out 3).trans rfl
    have hcz23_4 : wr.cell? ⟨gb196, 4, none⟩ = some (.int .i64 0) := (blk_cell BK196.out 4).trans rfl
    have hcz23_5 : wr.cell? ⟨gb196, 5, none⟩ = some (.int .i64 0) := (blk_cell BK196.out 5).trans rfl
    have hcz23_6 : wr.cell? ⟨gb196, 6, none⟩ = some (.bool false) := (blk_cell BK196.out 6).trans rfl
    have hcz23_7 : wr.cell? ⟨gb196, 7, none⟩ = some (.int .i64 0) := (blk_cell BK196.out 7).trans rfl
    have hcz23_8 : wr.cell? ⟨gb196, 8, none⟩ = some (.int .i64 0) := (blk_cell BK196.out 8).trans rfl
    have hcz23_9 : wr.cell? ⟨gb196, 9, none⟩ = some (.int .i64 (wrap64 (a0 - 1))) := (blk_cell BK196.out 9).trans rfl
    have hcz23_10 : wr.cell? ⟨gb196, 10, none⟩ = some (.bool false) := (blk_cell BK196.out 10).trans rfl
    have hcz23_11 : wr.cell? ⟨gb196, 11, none⟩ = some (.bool true) := (blk_cell BK196.out 11).trans rfl
    have hcz23_12 : wr.cell? ⟨gb196, 12, none⟩ = some (.bool false) := (blk_cell BK196.out 12).trans rfl
    have hcz23_13 : wr.cell? ⟨gb196, 13, none⟩ = some (u197013) := (blk_cell BK196.out 13).trans rfl
    have hcz23_14 : wr.cell? ⟨gb196, 14, none⟩ = some (.int .i64 0) := (blk_cell BK196.out 14).trans rfl
    have hcz23_15 : wr.cell? ⟨gb196, 15, none⟩ = some (.int .i64 0) := (blk_cell BK196.out 15).trans rfl
    have hcz23_16 : wr.cell? ⟨gb196, 16, none⟩ = some (.int .i64 0) := (blk_cell BK196.out 16).trans rfl
    have hcz23_17 : wr.cell? ⟨gb196, 17, none⟩ = some (.slice Ao8 y193.length co8) := (blk_cell BK196.out 17).trans rfl
    have hcz23_18 : wr.cell? ⟨gb196, 18, none⟩ = some (.int .i64 0) := (blk_cell BK196.out 18).trans rfl
    have hcz23_19 : wr.cell? ⟨gb196, 19, none⟩ = some (.int .i64 0) := (blk_cell BK196.out 19).trans rfl
    have hfz23_0 := blk_frozen BK196.out 0
    have hfz23_1 := blk_frozen BK196.out 1
    have hfz23_2 := blk_frozen BK196.out 2
    have hfz23_3 := blk_frozen BK196.out 3
    have hfz23_4 := blk_frozen BK196.out 4
    have hfz23_5 := blk_frozen BK196.out 5
    have hfz23_6 := blk_frozen BK196.out 6
    have hfz23_7 := blk_frozen BK196.out 7
    have hfz23_8 := blk_frozen BK196.out 8
    have hfz23_9 := blk_frozen BK196.out 9
    have hfz23_10 := blk_frozen BK196.out 10
    have hfz23_11 := blk_frozen BK196.out 11
    have hfz23_12 := blk_frozen BK196.out 12
    have hfz23_13 := blk_frozen BK196.out 13
    have hfz23_14 := blk_frozen BK196.out 14
    have hfz23_15 := blk_frozen BK196.out 15
    have hfz23_16 := blk_frozen BK196.out 16
    have hfz23_17 := blk_frozen BK196.out 17
    have hfz23_18 := blk_frozen BK196.out 18
    have hfz23_19 := blk_frozen BK196.out 19
    have hcz24_0 : wr.cell? ⟨gb184, 0, none⟩ = some (.int .i64 0) := (blk_cell BK184.out 0).trans rfl
    have hcz24_1 : wr.cell? ⟨gb184, 1, none⟩ = some (.int .i64 0) := (blk_cell BK184.out 1).trans rfl
    have hcz24_2 : wr.cell? ⟨gb184, 2, none⟩ = some (.slice none 0 0) := (blk_cell BK184.out 2).trans rfl
    have hcz24_3 : wr.cell? ⟨gb184, 3, none⟩ = some (.slice none 0 0) := (blk_cell BK184.out 3).trans rfl
    have hcz24_4 : wr.cell? ⟨gb184, 4, none⟩ = some (.int .i64 0) := (blk_cell BK184.out 4).trans rfl
    have hcz24_5 : wr.cell? ⟨gb184, 5, none⟩ = some (.int .i64 0) := (blk_cell BK184.out 5).trans rfl
    have hcz24_6 : wr.cell? ⟨gb184, 6, none⟩ = some (.bool false) := (blk_cell BK184.out 6).trans rfl
    have hcz24_7 : wr.cell? ⟨gb184, 7, none⟩ = some (.int .i64 0) := (blk_cell BK184.out 7).trans rfl
    have hcz24_8 : wr.cell? ⟨gb184, 8, none⟩ = some (.int .i64 0) := (blk_cell BK184.out 8).trans rfl
    have hcz24_9 : wr.cell? ⟨gb184, 9, none⟩ = some (.int .i64 0) := (blk_cell BK184.out 9).trans rfl
    have hcz24_10 : wr.cell? ⟨gb184, 10, none⟩ = some (.bool false) := (blk_cell BK184.out 10).trans rfl
    have hcz24_11 : wr.cell? ⟨gb184, 11, none⟩ = some (.bool false) := (blk_cell BK184.out 11).trans rfl
    have hcz24_12 : wr.cell? ⟨gb184, 12, none⟩ = some (.bool false) := (blk_cell BK184.out 12).trans rfl
    have hcz24_13 : wr.cell? ⟨gb184, 13, none⟩ = some (.slice none 0 0) := (blk_cell BK184.out 13).trans rfl
    have hcz24_14 : wr.cell? ⟨gb184, 14, none⟩ = some (.int .i64 0) := (blk_cell BK184.out 14).trans rfl
    have hcz24_15 : wr.cell? ⟨gb184, 15, none⟩ = some (.int .i64 0) := (blk_cell BK184.out 15).trans rfl
    have hcz24_16 : wr.cell? ⟨gb184, 16, none⟩ = some (.int .i64 0) := (blk_cell BK184.out 16).trans rfl
    have hcz24_17 : wr.cell? ⟨gb184, 17, none⟩ = some (.slice none 0 0) := (blk_cell BK184.out 17).trans rfl
    have hcz24_18 : wr.cell? ⟨gb184, 18, none⟩ = some (.int .i64 0) := (blk_cell BK184.out 18).trans rfl
    have hcz24_19 : wr.cell? ⟨gb184, 19, none⟩ = some (.int .i64 0) := (blk_cell BK184.out 19).trans rfl
    have hfz24_0 := blk_frozen BK184.out 0
    have hfz24_1 := blk_frozen BK184.out 1
    have hfz24_2 := blk_frozen BK184.out 2
    have hfz24_3 := blk_frozen BK184.out 3
    have hfz24_4 := blk_frozen BK184.out 4
    have hfz24_5 := blk_frozen BK184.out 5
    have hfz24_6 := blk_frozen BK184.out 6
    have hfz24_7 := blk_frozen BK184.out 7
    have hfz24_8 := blk_frozen BK184.out 8
    have hfz24_9 := blk_frozen BK184.out 9
    have hfz24_10 := blk_frozen BK184.out 10
    have hfz24_11 := blk_frozen BK184.out 11
    have hfz24_12 := blk_frozen BK184.out 12
    have hfz24_13 := blk_frozen BK184.out 13
    have hfz24_14 := blk_frozen BK184.out 14
    have hfz24_15 := blk_frozen BK184.out 15
    have hfz24_16 := blk_frozen BK184.out 16
    have hfz24_17 := blk_frozen BK184.out 17
    have hfz24_18 := blk_frozen BK184.out 18
    have hfz24_19 := blk_frozen BK184.out 19
    obtain ⟨Ao25, co25, eo25⟩ := Kd.R_slice HO_197013.out
    subst eo25
    go_wp2_with (first | ((with_reducible refine Go.Proofs.YtagipnepckgdfaaCells.gate_load (t := 64) (p := 5) rfl ?_); refine Go.Proofs.YtagipnepckgdfaaCells.load_whole (ty := 64) (p := 5) (g := gb196) (t := 64) ?hg ?ho ?hx (by (with_reducible repeat (first | refine blk_drewN ?_ _ | refine blk_drew ?_ | refine blk_alloc ?_ _)); exact BK196.out) Try.underlying64 rfl ?hi ?_; (case ho => rfl); (case hg => rfl); (case hx => rfl); (case hi => kernel_rfl)) | ((with_reducible refine gate_store (t := 64) (p := 4) rfl ?_); refine Go.Proofs.YtagipnepckgdfaaCells.store_whole (ty := 64) (x := .tmp 4) (y := ?vo_w26) (g := gb184) (cells := [.int .i64 t185, .int .i64 t186, .slice Ao10 t187.length co10, .slice Ao9 t190.length co9, .int .i64 0, .int .i64 0, .bool false, .int .i64 0, .int .i64 0, .int .i64 (wrap64 (a0 - 1)), .bool false, .bool true, .bool false, .slice Ao25 x197013_1.length co25, .int .i64 0, .int .i64 0, .int .i64 0, .slice Ao8 y193.length co8, .int .i64 0, .int .i64 0]) (t := 64) (old := [.int .i64 0, .int .i64 0, .slice none 0 0, .slice none 0 0, .int .i64 0, .int .i64 0, .bool false, .int .i64 0, .int .i64 0, .int .i64 0, .bool false, .bool false, .bool false, .slice none 0 0, .int .i64 0, .int .i64 0, .int .i64 0, .slice none 0 0, .int .i64 0, .int .i64 0]) ?hg ?ho ?hx ?hy ?hn ?hb ?hi rfl rfl ?_; (case ho => rfl); (case hg => rfl); (case hn => rfl); (case hx => rfl); (case hy => first | rfl | (go_simp; done) | (simp [*]; done)); (case hb => exact (by (with_reducible repeat (first | refine blk_drewN ?_ _ | refine blk_drew ?_ | refine blk_alloc ?_ _)); exact BK184.out)); (case hi => kernel_rfl); intro w26 hob_ hbk hfar hbel; have n0_ : Aside0 (Kd.R k107 107 w26 w.heap.size (fun k_ => some k_ ≠ (.slice Ao9 t190.length co9 : Value).ownBlock) (.slice Ao10 t187.length co10) t187) := ⟨Go.Proofs.YtagipnepckgdfaaCells.R_whole (by (with_reducible repeat (first | apply Kd.R_alloc | apply Kd.R_drewN | apply Kd.R_drew)); exact HO_197002.out) hob_ (by decide) hfar⟩; have n1_ : Aside0 (Kd.R k107 107 w26 w.heap.size (fun k_ => some k_ ≠ (.slice Ao10 t187.length co10 : Value).ownBlock) (.slice Ao9 t190.length co9) t190) := ⟨Go.Proofs.YtagipnepckgdfaaCells.R_whole (by (with_reducible repeat (first | apply Kd.R_alloc | apply Kd.R_drewN | apply Kd.R_drew)); exact HO_197003.out) hob_ (by decide) hfar⟩; have n2_ : Aside0 (Kd.R Kd.bool 4 w26 w.heap.size (fun _ => True) (.slice Ao25 x197013_1.length co25) x197013_1) := ⟨Go.Proofs.YtagipnepckgdfaaCells.R_whole (by (with_reducible repeat (first | apply Kd.R_alloc | apply Kd.R_drewN | apply Kd.R_drew)); exact HO_197013.out) hob_ (by decide) hfar⟩; have n3_ : Aside0 (Kd.R (Kd.int .i64) 2 w26 w.heap.size (fun _ => True) (.slice Ao8 y193.length co8) y193) := ⟨Go.Proofs.YtagipnepckgdfaaCells.R_whole (by (with_reducible repeat (first | apply Kd.R_alloc | apply Kd.R_drewN | apply Kd.R_drew)); exact HO_197017.out) hob_ (by decide) hfar⟩; have n4_ : Aside0 (w26.heap[gb184]? = some (.cells #[.int .i64 t185, .int .i64 t186, .slice Ao10 t187.length co10, .slice Ao9 t190.length co9, .int .i64 0, .int .i64 0, .bool false, .int .i64 0, .int .i64 0, .int .i64 (wrap64 (a0 - 1)), .bool false, .bool true, .bool false, .slice Ao25 x197013_1.length co25, .int .i64 0, .int .i64 0, .int .i64 0, .slice Ao8 y193.length co8, .int .i64 0, .int .i64 0] 64 (0, 0))) := ⟨hbk⟩; have n5_ : Aside0 (w26.heap[gb196]? = some (.cells #[.int .i64 t185, .int .i64 t186, .slice Ao10 t187.length co10, .slice Ao9 t190.length co9, .int .i64 0, .int .i64 0, .bool false, .int .i64 0, .int .i64 0, .int .i64 (wrap64 (a0 - 1)), .bool false, .bool true, .bool false, .slice Ao25 x197013_1.length co25, .int .i64 0, .int .i64 0, .int .i64 0, .slice Ao8 y193.length co8, .int .i64 0, .int .i64 0] 64 (0, 0))) := ⟨(hfar _ NB196_184.out).trans (by (with_reducible repeat (first | refine blk_drewN ?_ _ | refine blk_drew ?_ | refine blk_alloc ?_ _)); exact BK196.out)⟩; have n6_ : Aside0 (Below w.heap.size w w26) := ⟨hbel _ _ GE184.out (by repeat (first | (with_reducible first | exact HB.out | apply below_alloc | apply pw_below_drewN | apply below_drew1 | refine below_set ?_ GE184.out | refine below_set ?_ GE196.out) | exact HB.out))⟩; clear hob_ hbk hfar hbel; clear HO_197002; clear HO_197003; clear HO_197013; clear HO_197017; clear BK184; clear BK196; clear HB; have HO_197002 := n0_; have HO_197003 := n1_; have HO_197013 := n2_; have HO_197017 := n3_; have BK184 := n4_; have BK196 := n5_; have HB := n6_; clear n0_ n1_ n2_ n3_ n4_ n5_ n6_))
    refine bodyPost_ret (results_cell_row rfl _ _ gb184 64 #[.int .i64 t185, .int .i64 t186, .slice Ao10 t187.length co10, .slice Ao9 t190.length co9, .int .i64 0, .int .i64 0, .bool false, .int .i64 0, .int .i64 0, .int .i64 (wrap64 (a0 - 1)), .bool false, .bool true, .bool false, .slice Ao25 x197013_1.length co25, .int .i64 0, .int .i64 0, .int .i64 0, .slice Ao8 y193.length co8, .int .i64 0, .int .i64 0] (0, 0) _ rfl (by (with_reducible repeat (first | refine blk_drewN ?_ _ | refine blk_drew ?_ | refine blk_alloc ?_ _)); exact BK184.out) Try.underlying64 rfl (by kernel_rfl)) rfl ?_
    exact ⟨_, _, _, _, by first | rfl | (simp [errW_none, errW_some] <;> rfl) | (simp [*, errW_none, errW_some] <;> rfl), by (with_reducible repeat (first | apply Kd.R_alloc | apply Kd.R_drewN | apply Kd.R_drew)); exact HO_197002.out, by (with_reducible repeat (first | apply Kd.R_alloc | apply Kd.R_drewN | apply Kd.R_drew)); exact HO_197003.out, by (with_reducible repeat (first | apply Kd.R_alloc | apply Kd.R_drewN | apply Kd.R_drew)); exact HO_197013.out, by (with_reducible repeat (first | apply Kd.R_alloc | apply Kd.R_drewN | apply Kd.R_drew)); exact HO_197017.out, by repeat (first | (with_reducible first | exact HB.out | apply below_alloc | apply pw_below_drewN | apply below_drew1 | refine below_set ?_ GE184.out | refine below_set ?_ GE196.out) | exact HB.out)⟩

/-! ### impl_NewVt: function 53 -/
def impl_NewVt.f (k : Nat) (a0 : Int) (a1 : Int) : Option (Int × Int × Int × Int × Int × Int × Bool × List Int × Int × Int × (List (S107)) × (List (S107)) × Int × Int × Bool × Int × Int × Int × Bool × Bool × Bool × List Bool × Int × Int × Int × List Int × Int × Int) := (impl_sizeOk.f a0 a1).bind fun t202 => (if t202 = true then ((impl_newScreen.f k a0 a1).bind fun bt203 => (some (0, 0, 0, 0, 0, 0, false, ([] : List Int), bt203.1, bt203.2.1, bt203.2.2.1, bt203.2.2.2.1, bt203.2.2.2.2.1, bt203.2.2.2.2.2.1, bt203.2.2.2.2.2.2.1, bt203.2.2.2.2.2.2.2.1, bt203.2.2.2.2.2.2.2.2.1, bt203.2.2.2.2.2.2.2.2.2.1, bt203.2.2.2.2.2.2.2.2.2.2.1, bt203.2.2.2.2.2.2.2.2.2.2.2.1, bt203.2.2.2.2.2.2.2.2.2.2.2.2.1, bt203.2.2.2.2.2.2.2.2.2.2.2.2.2.1, bt203.2.2.2.2.2.2.2.2.2.2.2.2.2.2.1, bt203.2.2.2.2.2.2.2.2.2.2.2.2.2.2.2.1, bt203.2.2.2.2.2.2.2.2.2.2.2.2.2.2.2.2.1, bt203.2.2.2.2.2.2.2.2.2.2.2.2.2.2.2.2.2.1, bt203.2.2.2.2.2.2.2.2.2.2.2.2.2.2.2.2.2.2.1, bt203.2.2.2.2.2.2.2.2.2.2.2.2.2.2.2.2.2.2.2))) else (some (3, 0, 0, 0, 0, 0, false, ([] : List Int), 0, 0, ([] : List (S107)), ([] : List (S107)), 0, 0, false, 0, 0, 0, false, false, false, ([] : List Bool), 0, 0, 0, ([] : List Int), 0, 0)))
theorem impl_NewVt.mono : ∀ a0 a1 k, LeO (impl_NewVt.f k a0 a1) (impl_NewVt.f (k + 1) a0 a1) := by
 intro a0 a1 k
 unfold impl_NewVt.f
 repeat' first
   | (with_reducible exact impl_newScreen.mono _ _ _)
   | (with_reducible exact LeO.refl _)
   | (with_reducible exact LeO.none _)
   | (with_reducible refine LeO.ite ?_ ?_)
   | (with_reducible refine LeO.bind ?_ (fun _ => ?_))
   | exact impl_newScreen.mono _ _ _
   | exact LeO.none _
   | refine LeO.ite ?_ ?_
   | refine LeO.bind ?_ (fun _ => ?_)
set_option maxHeartbeats 8000000 in
set_option maxRecDepth 100000 in
theorem impl_NewVt.calls (k : Nat) (a0 : Int) (a1 : Int) (r1 : Int) (r2 : Int) (r3 : Int) (r4 : Int) (r5 : Int) (r6 : Int) (r7 : Bool) (r8 : List Int) (r9 : Int) (r10 : Int) (r11 : List (S107)) (r12 : List (S107)) (r13 : Int) (r14 : Int) (r15 : Bool) (r16 : Int) (r17 : Int) (r18 : Int) (r19 : Bool) (r20 : Bool) (r21 : Bool) (r22 : List Bool) (r23 : Int) (r24 : Int) (r25 : Int) (r26 : List Int) (r27 : Int) (r28 : Int) (w : World) (h : impl_NewVt.f k a0 a1 = some (r1, r2, r3, r4, r5, r6, r7, r8, r9, r10, r11, r12, r13, r14, r15, r16, r17, r18, r19, r20, r21, r22, r23, r24, r25, r26, r27, r28)) :
  Calls Try.prog 53 #[.int .i64 a0, .int .i64 a1] w fun e w' => ∃ v7_ v10_ v11_ v21_ v25_ : Value, e = .returned (.agg #[.int .i64 r1, .int .i64 r2, .int .i64 r3, .int .i64 r4, .int .i64 r5, .int .i64 r6, .bool r7, v7_, .int .i64 r9, .int .i64 r10, v10_, v11_, .int .i64 r13, .int .i64 r14, .bool r15, .int .i64 r16, .int .i64 r17, .int .i64 r18, .bool r19, .bool r20, .bool r21, v21_, .int .i64 r23, .int .i64 r24, .int .i64 r25, v25_, .int .i64 r27, .int .i64 r28]) ∧ Kd.R (Kd.int .i64) 2 w' w.heap.size (fun k_ => some k_ ≠ (v25_ : Value).ownBlock) v7_ r8 ∧ Kd.R k107 107 w' w.heap.size (fun k_ => some k_ ≠ (v11_ : Value).ownBlock) v10_ r11 ∧ Kd.R k107 107 w' w.heap.size (fun k_ => some k_ ≠ (v10_ : Value).ownBlock) v11_ r12 ∧ Kd.R Kd.bool 4 w' w.heap.size (fun _ => True) v21_ r22 ∧ Kd.R (Kd.int .i64) 2 w' w.heap.size (fun k_ => some k_ ≠ (v7_ : Value).ownBlock) v25_ r26 ∧ Below w.heap.size w w' := by
 have hu84 := Try.underlying84
 have hu80 := Try.underlying80
 have HB := Aside0.mk (Below.refl w.heap.size w)
 have H : ((impl_sizeOk.f a0 a1).bind fun t202 => (if t202 = true then ((impl_newScreen.f k a0 a1).bind fun bt203 => (some (0, 0, 0, 0, 0, 0, false, ([] : List Int), bt203.1, bt203.2.1, bt203.2.2.1, bt203.2.2.2.1, bt203.2.2.2.2.1, bt203.2.2.2.2.2.1, bt203.2.2.2.2.2.2.1, bt203.2.2.2.2.2.2.2.1, bt203.2.2.2.2.2.2.2.2.1, bt203.2.2.2.2.2.2.2.2.2.1, bt203.2.2.2.2.2.2.2.2.2.2.1, bt203.2.2.2.2.2.2.2.2.2.2.2.1, bt203.2.2.2.2.2.2.2.2.2.2.2.2.1, bt203.2.2.2.2.2.2.2.2.2.2.2.2.2.1, bt203.2.2.2.2.2.2.2.2.2.2.2.2.2.2.1, bt203.2.2.2.2.2.2.2.2.2.2.2.2.2.2.2.1, bt203.2.2.2.2.2.2.2.2.2.2.2.2.2.2.2.2.1, bt203.2.2.2.2.2.2.2.2.2.2.2.2.2.2.2.2.2.1, bt203.2.2.2.2.2.2.2.2.2.2.2.2.2.2.2.2.2.2.1, bt203.2.2.2.2.2.2.2.2.2.2.2.2.2.2.2.2.2.2.2))) else (some (3, 0, 0, 0, 0, 0, false, ([] : List Int), 0, 0, ([] : List (S107)), ([] : List (S107)), 0, 0, false, 0, 0, 0, false, false, false, ([] : List Bool), 0, 0, 0, ([] : List Int), 0, 0)))) = some (r1, r2, r3, r4, r5, r6, r7, r8, r9, r10, r11, r12, r13, r14, r15, r16, r17, r18, r19, r20, r21, r22, r23, r24, r25, r26, r27, r28) := h
 clear h
 replace H := Option.bind_eq_some_iff.mp H
 obtain ⟨t202, A30, H⟩ := H
 replace H : (if t202 = true then ((impl_newScreen.f k a0 a1).bind fun bt203 => (some (0, 0, 0, 0, 0, 0, false, ([] : List Int), bt203.1, bt203.2.1, bt203.2.2.1, bt203.2.2.2.1, bt203.2.2.2.2.1, bt203.2.2.2.2.2.1, bt203.2.2.2.2.2.2.1, bt203.2.2.2.2.2.2.2.1, bt203.2.2.2.2.2.2.2.2.1, bt203.2.2.2.2.2.2.2.2.2.1, bt203.2.2.2.2.2.2.2.2.2.2.1, bt203.2.2.2.2.2.2.2.2.2.2.2.1, bt203.2.2.2.2.2.2.2.2.2.2.2.2.1, bt203.2.2.2.2.2.2.2.2.2.2.2.2.2.1, bt203.2.2.2.2.2.2.2.2.2.2.2.2.2.2.1, bt203.2.2.2.2.2.2.2.2.2.2.2.2.2.2.2.1, bt203.2.2.2.2.2.2.2.2.2.2.2.2.2.2.2.2.1, bt203.2.2.2.2.2.2.2.2.2.2.2.2.2.2.2.2.2.1, bt203.2.2.2.2.2.2.2.2.2.2.2.2.2.2.2.2.2.2.1, bt203.2.2.2.2.2.2.2.2.2.2.2.2.2.2.2.2.2.2.2))) else (some (3, 0, 0, 0, 0, 0, false, ([] : List Int), 0, 0, ([] : List (S107)), ([] : List (S107)), 0, 0, false, 0, 0, 0, false, false, false, ([] : List Bool), 0, 0, 0, ([] : List Int), 0, 0))) = some (r1, r2, r3, r4, r5, r6, r7, r8, r9, r10, r11, r12, r13, r14, r15, r16, r17, r18, r19, r20, r21, r22, r23, r24, r25, r26, r27, r28) := H
 have A3 := Aside0.mk A30
 clear A30
 by_cases c4 : t202 = true
 ·subst c4
  have H1 : ((impl_newScreen.f k a0 a1).bind fun bt203 => (some (0, 0, 0, 0, 0, 0, false, ([] : List Int), bt203.1, bt203.2.1, bt203.2.2.1, bt203.2.2.2.1, bt203.2.2.2.2.1, bt203.2.2.2.2.2.1, bt203.2.2.2.2.2.2.1, bt203.2.2.2.2.2.2.2.1, bt203.2.2.2.2.2.2.2.2.1, bt203.2.2.2.2.2.2.2.2.2.1, bt203.2.2.2.2.2.2.2.2.2.2.1, bt203.2.2.2.2.2.2.2.2.2.2.2.1, bt203.2.2.2.2.2.2.2.2.2.2.2.2.1, bt203.2.2.2.2.2.2.2.2.2.2.2.2.2.1, bt203.2.2.2.2.2.2.2.2.2.2.2.2.2.2.1, bt203.2.2.2.2.2.2.2.2.2.2.2.2.2.2.2.1, bt203.2.2.2.2.2.2.2.2.2.2.2.2.2.2.2.2.1, bt203.2.2.2.2.2.2.2.2.2.2.2.2.2.2.2.2.2.1, bt203.2.2.2.2.2.2.2.2.2.2.2.2.2.2.2.2.2.2.1, bt203.2.2.2.2.2.2.2.2.2.2.2.2.2.2.2.2.2.2.2))) = some (r1, r2, r3, r4, r5, r6, r7, r8, r9, r10, r11, r12, r13, r14, r15, r16, r17, r18, r19, r20, r21, r22, r23, r24, r25, r26, r27, r28) := by rw [if_pos rfl] at H; exact H
  clear H
  have H := H1
  clear H1
  replace H := Option.bind_eq_some_iff.mp H
  obtain ⟨⟨t203, t204, t205, t208, t211, t212, t213, t214, t215, t216, t217, t218, t219, t220, t223, t224, t225, t226, t229, t230⟩, A50, H⟩ := H
  replace H : (some (0, 0, 0, 0, 0, 0, false, ([] : List Int), t203, t204, t205, t208, t211, t212, t213, t214, t215, t216, t217, t218, t219, t220, t223, t224, t225, t226, t229, t230)) = some (r1, r2, r3, r4, r5, r6, r7, r8, r9, r10, r11, r12, r13, r14, r15, r16, r17, r18, r19, r20, r21, r22, r23, r24, r25, r26, r27, r28) := H
  have A5 := Aside0.mk A50
  clear A50
  simp only [Option.some.injEq, Prod.mk.injEq] at H
  obtain ⟨rfl, rfl, rfl, rfl, rfl, rfl, rfl, rfl, rfl, rfl, rfl, rfl, rfl, rfl, rfl, rfl, rfl, rfl, rfl, rfl, rfl, rfl, rfl, rfl, rfl, rfl, rfl, rfl⟩ := H
  go_enter Try.func53, Try.ntmps53
  go_wp2_with (first | ((with_reducible refine gate_dst (N := 4) rfl ?_); refine box_event ?hg (N := 4) ?hd (cs := #[.int .i64 0, .int .i64 0, .int .i64 0, .int .i64 0, .int .i64 0, .int .i64 0, .bool false, .slice none 0 0, .int .i64 0, .int .i64 0, .slice none 0 0, .slice none 0 0, .int .i64 0, .int .i64 0, .bool false, .int .i64 0, .int .i64 0, .int .i64 0, .bool false, .bool false, .bool false, .slice none 0 0, .int .i64 0, .int .i64 0, .int .i64 0, .slice none 0 0, .int .i64 0, .int .i64 0]) (t := 84) ?hr ?_; (case hd => rfl); (case hg => rfl); (case hr => first | (go_simp; done) | (go_simp; rfl)); intro gb201 hg w6 hbox hb; have n0_ := Aside0.mk (below_step (by repeat (first | (with_reducible first | exact HB.out | apply below_alloc | apply pw_below_drewN | apply below_drew1) | exact HB.out)) hb); have n1_ := Aside0.mk (hbox); have n2_ := Aside0.mk ((by rw [hg]; exact (below_size (by repeat (first | (with_reducible first | exact HB.out | apply below_alloc | apply pw_below_drewN | apply below_drew1) | exact HB.out))) : w.heap.size ≤ gb201)); have n3_ := Aside0.mk ((by rw [hg]; exact (below_size (by repeat (first | (with_reducible first | exact HB.out | apply below_alloc | apply pw_below_drewN | apply below_drew1) | exact HB.out))) : w.heap.size ≤ gb201)); clear HB; have HB := n0_; have BK201 := n1_; have GW201 := n2_; have GE201 := n3_; clear n0_ n1_ n2_ n3_; clear hb hbox hg) | ((with_reducible refine gate_callee (f := 76) rfl ?_); refine goesL_ (some 7) rfl rfl Try.func76 (by kernel_rfl) rfl #[.int .i64 a0, .int .i64 a1] rfl (by (try simp only [List.map_toArray, List.map_cons, List.map_nil]); first | done | rfl | (simp only [List.length_drop, List.length_take]; rfl)) ?_; (with_reducible refine (impl_sizeOk.calls a0 a1 true _ A3.out).mono ?_); rintro e w' ⟨rfl, ⟨nd, rfl⟩⟩; refine ⟨_, rfl, ?_⟩; (try (rw [drewN_self w6]; generalize hq_ : World.drewN w6 _ = w6; have n0_ : Aside0 (w6.heap[gb201]? = some (.cells #[.int .i64 0, .int .i64 0, .int .i64 0, .int .i64 0, .int .i64 0, .int .i64 0, .bool false, .slice none 0 0, .int .i64 0, .int .i64 0, .slice none 0 0, .slice none 0 0, .int .i64 0, .int .i64 0, .bool false, .int .i64 0, .int .i64 0, .int .i64 0, .bool false, .bool false, .bool false, .slice none 0 0, .int .i64 0, .int .i64 0, .int .i64 0, .slice none 0 0, .int .i64 0, .int .i64 0] 84 (0, 0))) := ⟨by rw [← hq_]; exact (by (with_reducible repeat (first | refine blk_drewN ?_ _ | refine blk_drew ?_ | refine blk_alloc ?_ _)); exact BK201.out)⟩; have n1_ : Aside0 (Below w.heap.size w w6) := ⟨by rw [← hq_]; exact (by repeat (first | (with_reducible first | exact HB.out | apply below_alloc | apply pw_below_drewN | apply below_drew1 | refine below_set ?_ GE201.out) | exact HB.out))⟩; clear BK201 HB hq_; have BK201 := n0_; have HB := n1_; clear n0_ n1_))) | ((with_reducible refine gate_callee (f := 92) rfl ?_); refine goesL_ (some 12) rfl rfl Try.func92 (by kernel_rfl) rfl #[.int .i64 a0, .int .i64 a1] rfl (by (try simp only [List.map_toArray, List.map_cons, List.map_nil]); first | done | rfl | (simp only [List.length_drop, List.length_take]; rfl)) ?_; (with_reducible refine (impl_newScreen.calls k a0 a1 t203 t204 t205 t208 t211 t212 t213 t214 t215 t216 t217 t218 t219 t220 t223 t224 t225 t226 t229 t230 _ A5.out).mono ?_); rintro e w7 ⟨v206, v209, v221, v227, rfl, ho0, ho1, ho2, ho3, hb⟩; refine ⟨_, rfl, ?_⟩; have n0_ := Aside0.mk (Kd.R_lower ho0 (below_size (by repeat (first | (with_reducible first | exact HB.out | apply below_alloc | apply pw_below_drewN | apply below_drew1 | refine below_set ?_ GE201.out) | exact HB.out)))); have n1_ := Aside0.mk (Kd.R_lower ho1 (below_size (by repeat (first | (with_reducible first | exact HB.out | apply below_alloc | apply pw_below_drewN | apply below_drew1 | refine below_set ?_ GE201.out) | exact HB.out)))); have n2_ := Aside0.mk (Kd.R_lower ho2 (below_size (by repeat (first | (with_reducible first | exact HB.out | apply below_alloc | apply pw_below_drewN | apply below_drew1 | refine below_set ?_ GE201.out) | exact HB.out)))); have n3_ := Aside0.mk (Kd.R_lower ho3 (below_size (by repeat (first | (with_reducible first | exact HB.out | apply below_alloc | apply pw_below_drewN | apply below_drew1 | refine below_set ?_ GE201.out) | exact HB.out)))); have n4_ := Aside0.mk (blkb hb BK201.out); have n5_ := Aside0.mk (below_step (by repeat (first | (with_reducible first | exact HB.out | apply below_alloc | apply pw_below_drewN | apply below_drew1 | refine below_set ?_ GE201.out) | exact HB.out)) hb); clear BK201; clear HB; have HO207 := n0_; have HO210 := n1_; have HO222 := n2_; have HO228 := n3_; have BK201 := n4_; have HB := n5_; clear n0_ n1_ n2_ n3_ n4_ n5_; (try clear hb); (try clear hb2); (try clear hk); (try clear hi); (try clear ho0); (try clear ho1); (try clear ho2); (try clear ho3); obtain ⟨Ao8, co8, eo8⟩ := Kd.R_slice HO228.out; subst eo8; obtain ⟨Ao9, co9, eo9⟩ := Kd.R_slice HO222.out; subst eo9; obtain ⟨Ao10, co10, eo10⟩ := Kd.R_slice HO210.out; subst eo10; obtain ⟨Ao11, co11, eo11⟩ := Kd.R_slice HO207.out; subst eo11; have hcz12_0 : w7.cell? ⟨gb201, 0, none⟩ = some (.int .i64 0) := (blk_cell BK201.out 0).trans rfl; have hcz12_1 : w7.cell? ⟨gb201, 1, none⟩ = some (.int .i64 0) := (blk_cell BK201.out 1).trans rfl; have hcz12_2 : w7.cell? ⟨gb201, 2, none⟩ = some (.int .i64 0) := (blk_cell BK201.out 2).trans rfl; have hcz12_3 : w7.cell? ⟨gb201, 3, none⟩ = some (.int .i64 0) := (blk_cell BK201.out 3).trans rfl; have hcz12_4 : w7.cell? ⟨gb201, 4, none⟩ = some (.int .i64 0) := (blk_cell BK201.out 4).trans rfl; have hcz12_5 : w7.cell? ⟨gb201, 5, none⟩ = some (.int .i64 0) := (blk_cell BK201.out 5).trans rfl; have hcz12_6 : w7.cell? ⟨gb201, 6, none⟩ = some (.bool false) := (blk_cell BK201.out 6).trans rfl; have hcz12_7 : w7.cell? ⟨gb201, 7, none⟩ = some (.slice none 0 0) := (blk_cell BK201.out 7).trans rfl; have hcz12_8 : w7.cell? ⟨gb201, 8, none⟩ = some (.int .i64 0) := (blk_cell BK201.out 8).trans rfl; have hcz12_9 : w7.cell? ⟨gb201, 9, none⟩ = some (.int .i64 0) := (blk_cell BK201.out 9).trans rfl; have hcz12_10 : w7.cell? ⟨gb201, 10, none⟩ = some (.slice none 0 0) := (blk_cell BK201.out 10).trans rfl; have hcz12_11 : w7.cell? ⟨gb201, 11, none⟩ = some (.slice none 0 0) := (blk_cell BK201.out 11).trans rfl; have hcz12_12 : w7.cell? ⟨gb201, 12, none⟩ = some (.int .i64 0) := (blk_cell BK201.out 12).trans rfl; have hcz12_13 : w7.cell? ⟨gb201, 13, none⟩ = some (.int .i64 0) := (blk_cell BK201.out 13).trans rfl; have hcz12_14 : w7.cell? ⟨gb201, 14, none⟩ = some (.bool false) := (blk_cell BK201.out 14).trans rfl; have hcz12_15 : w7.cell? ⟨gb201, 15, none⟩ = some (.int .i64 0) := (blk_cell BK201.out 15).trans rfl; have hcz12_16 : w7.cell? ⟨gb201, 16, none⟩ = some (.int .i64 0) := (blk_cell BK201.out 16).trans rfl; have hcz12_17 : w7.cell? ⟨gb201, 17, none⟩ = some (.int .i64 0) := (blk_cell BK201.out 17).trans rfl; have hcz12_18 : w7.cell? ⟨gb201, 18, none⟩ = some (.bool false) := (blk_cell BK201.out 18).trans rfl; have hcz12_19 : w7.cell? ⟨gb201, 19, none⟩ = some (.bool false) := (blk_cell BK201.out 19).trans rfl; have hcz12_20 : w7.cell? ⟨gb201, 20, none⟩ = some (.bool false) := (blk_cell BK201.out 20).trans rfl; have hcz12_21 : w7.cell? ⟨gb201, 21, none⟩ = some (.slice none 0 0) := (blk_cell BK201.out 21).trans rfl; have hcz12_22 : w7.cell? ⟨gb201, 22, none⟩ = some (.int .i64 0) := (blk_cell BK201.out 22).trans rfl; have hcz12_23 : w7.cell? ⟨gb201, 23, none⟩ = some (.int .i64 0) := (blk_cell BK201.out 23).trans rfl; have hcz12_24 : w7.cell? ⟨gb201, 24, none⟩ = some (.int .i64 0) := (blk_cell BK201.out 24).trans rfl; have hcz12_25 : w7.cell? ⟨gb201, 25, none⟩ = some (.slice none 0 0) := (blk_cell BK201.out 25).trans rfl; have hcz12_26 : w7.cell? ⟨gb201, 26, none⟩ = some (.int .i64 0) := (blk_cell BK201.out 26).trans rfl; have hcz12_27 : w7.cell? ⟨gb201, 27, none⟩ = some (.int .i64 0) := (blk_cell BK201.out 27).trans rfl; have hfz12_0 := blk_frozen BK201.out 0; have hfz12_1 := blk_frozen BK201.out 1; have hfz12_2 := blk_frozen BK201.out 2; have hfz12_3 := blk_frozen BK201.out 3; have hfz12_4 := blk_frozen BK201.out 4; have hfz12_5 := blk_frozen BK201.out 5; have hfz12_6 := blk_frozen BK201.out 6; have hfz12_7 := blk_frozen BK201.out 7; have hfz12_8 := blk_frozen BK201.out 8; have hfz12_9 := blk_frozen BK201.out 9; have hfz12_10 := blk_frozen BK201.out 10; have hfz12_11 := blk_frozen BK201.out 11; have hfz12_12 := blk_frozen BK201.out 12; have hfz12_13 := blk_frozen BK201.out 13; have hfz12_14 := blk_frozen BK201.out 14; have hfz12_15 := blk_frozen BK201.out 15; have hfz12_16 := blk_frozen BK201.out 16; have hfz12_17 := blk_frozen BK201.out 17; have hfz12_18 := blk_frozen BK201.out 18; have hfz12_19 := blk_frozen BK201.out 19; have hfz12_20 := blk_frozen BK201.out 20; have hfz12_21 := blk_frozen BK201.out 21; have hfz12_22 := blk_frozen BK201.out 22; have hfz12_23 := blk_frozen BK201.out 23; have hfz12_24 := blk_frozen BK201.out 24; have hfz12_25 := blk_frozen BK201.out 25; have hfz12_26 := blk_frozen BK201.out 26; have hfz12_27 := blk_frozen BK201.out 27) | ((with_reducible refine gate_store (t := 84) (p := 4) rfl ?_); refine Go.Proofs.YtagipnepckgdfaaCells.store_whole (ty := 84) (x := .tmp 4) (y := ?vo_w13) (g := gb201) (cells := [.int .i64 0, .int .i64 0, .int .i64 0, .int .i64 0, .int .i64 0, .int .i64 0, .bool false, .slice none 0 0, .int .i64 t203, .int .i64 t204, .slice Ao11 t205.length co11, .slice Ao10 t208.length co10, .int .i64 t211, .int .i64 t212, .bool t213, .int .i64 t214, .int .i64 t215, .int .i64 t216, .bool t217, .bool t218, .bool t219, .slice Ao9 t220.length co9, .int .i64 t223, .int .i64 t224, .int .i64 t225, .slice Ao8 t226.length co8, .int .i64 t229, .int .i64 t230]) (t := 84) (old := [.int .i64 0, .int .i64 0, .int .i64 0, .int .i64 0, .int .i64 0, .int .i64 0, .bool false, .slice none 0 0, .int .i64 0, .int .i64 0, .slice none 0 0, .slice none 0 0, .int .i64 0, .int .i64 0, .bool false, .int .i64 0, .int .i64 0, .int .i64 0, .bool false, .bool false, .bool false, .slice none 0 0, .int .i64 0, .int .i64 0, .int .i64 0, .slice none 0 0, .int .i64 0, .int .i64 0]) ?hg ?ho ?hx ?hy ?hn ?hb ?hi rfl rfl ?_; (case ho => rfl); (case hg => rfl); (case hn => rfl); (case hx => rfl); (case hy => first | rfl | (go_simp; done) | (simp [*]; done)); (case hb => exact (by (with_reducible repeat (first | refine blk_drewN ?_ _ | refine blk_drew ?_ | refine blk_alloc ?_ _)); exact BK201.out)); (case hi => kernel_rfl); intro w13 hob_ hbk hfar hbel; have n0_ : Aside0 (Kd.R k107 107 w13 w.heap.size (fun k_ => some k_ ≠ (.slice Ao10 t208.length co10 : Value).ownBlock) (.slice Ao11 t205.length co11) t205) := ⟨Go.Proofs.YtagipnepckgdfaaCells.R_whole (by (with_reducible repeat (first | apply Kd.R_alloc | apply Kd.R_drewN | apply Kd.R_drew)); exact HO207.out) hob_ (by decide) hfar⟩; have n1_ : Aside0 (Kd.R k107 107 w13 w.heap.size (fun k_ => some k_ ≠ (.slice Ao11 t205.length co11 : Value).ownBlock) (.slice Ao10 t208.length co10) t208) := ⟨Go.Proofs.YtagipnepckgdfaaCells.R_whole (by (with_reducible repeat (first | apply Kd.R_alloc | apply Kd.R_drewN | apply Kd.R_drew)); exact HO210.out) hob_ (by decide) hfar⟩; have n2_ : Aside0 (Kd.R Kd.bool 4 w13 w.heap.size (fun _ => True) (.slice Ao9 t220.length co9) t220) := ⟨Go.Proofs.YtagipnepckgdfaaCells.R_whole (by (with_reducible repeat (first | apply Kd.R_alloc | apply Kd.R_drewN | apply Kd.R_drew)); exact HO222.out) hob_ (by decide) hfar⟩; have n3_ : Aside0 (Kd.R (Kd.int .i64) 2 w13 w.heap.size (fun _ => True) (.slice Ao8 t226.length co8) t226) := ⟨Go.Proofs.YtagipnepckgdfaaCells.R_whole (by (with_reducible repeat (first | apply Kd.R_alloc | apply Kd.R_drewN | apply Kd.R_drew)); exact HO228.out) hob_ (by decide) hfar⟩; have n4_ : Aside0 (w13.heap[gb201]? = some (.cells #[.int .i64 0, .int .i64 0, .int .i64 0, .int .i64 0, .int .i64 0, .int .i64 0, .bool false, .slice none 0 0, .int .i64 t203, .int .i64 t204, .slice Ao11 t205.length co11, .slice Ao10 t208.length co10, .int .i64 t211, .int .i64 t212, .bool t213, .int .i64 t214, .int .i64 t215, .int .i64 t216, .bool t217, .bool t218, .bool t219, .slice Ao9 t220.length co9, .int .i64 t223, .int .i64 t224, .int .i64 t225, .slice Ao8 t226.length co8, .int .i64 t229, .int .i64 t230] 84 (0, 0))) := ⟨hbk⟩; have n5_ : Aside0 (Below w.heap.size w w13) := ⟨hbel _ _ GE201.out (by repeat (first | (with_reducible first | exact HB.out | apply below_alloc | apply pw_below_drewN | apply below_drew1 | refine below_set ?_ GE201.out) | exact HB.out))⟩; clear hob_ hbk hfar hbel; clear HO207; clear HO210; clear HO222; clear HO228; clear BK201; clear HB; have HO207 := n0_; have HO210 := n1_; have HO222 := n2_; have HO228 := n3_; have BK201 := n4_; have HB := n5_; clear n0_ n1_ n2_ n3_ n4_ n5_))
  refine bodyPost_ret (results_cell_row rfl _ _ gb201 84 #[.int .i64 0, .int .i64 0, .int .i64 0, .int .i64 0, .int .i64 0, .int .i64 0, .bool false, .slice none 0 0, .int .i64 t203, .int .i64 t204, .slice Ao11 t205.length co11, .slice Ao10 t208.length co10, .int .i64 t211, .int .i64 t212, .bool t213, .int .i64 t214, .int .i64 t215, .int .i64 t216, .bool t217, .bool t218, .bool t219, .slice Ao9 t220.length co9, .int .i64 t223, .int .i64 t224, .int .i64 t225, .slice Ao8 t226.length co8, .int .i64 t229, .int .i64 t230] (0, 0) _ rfl (by (with_reducible repeat (first | refine blk_drewN ?_ _ | refine blk_drew ?_ | refine blk_alloc ?_ _)); exact BK201.out) Try.underlying84 rfl (by kernel_rfl)) rfl ?_
  exact ⟨_, _, _, _, _, by first | rfl | (simp [errW_none, errW_some] <;> rfl) | (simp [*, errW_none, errW_some] <;> rfl), by first | exact Kd.R_nil _ _ _ _ _ | exact Kd.N_nil _ _ _ _ _ | exact Kd.V_nil _ _ _ _ _ | exact Kd.Q_nil _ _ _ _ _ | exact Kd.S_nil _ _ _ _ _, by (with_reducible repeat (first | apply Kd.R_alloc | apply Kd.R_drewN | apply Kd.R_drew)); exact HO207.out, by (with_reducible repeat (first | apply Kd.R_alloc | apply Kd.R_drewN | apply Kd.R_drew)); exact HO210.out, by (with_reducible repeat (first | apply Kd.R_alloc | apply Kd.R_drewN | apply Kd.R_drew)); exact HO222.out, by (with_reducible repeat (first | apply Kd.R_alloc | apply Kd.R_drewN | apply Kd.R_drew)); exact Kd.R_mono HO228.out (fun _ hk => (by simp [Value.ownBlock])), by repeat (first | (with_reducible first | exact HB.out | apply below_alloc | apply pw_below_drewN | apply below_drew1 | refine below_set ?_ GE201.out) | exact HB.out)⟩
 ·replace c4 := Bool.eq_false_iff.mpr c4
  subst c4
  have H1 : (some (3, 0, 0, 0, 0, 0, false, ([] : List Int), 0, 0, ([] : List (S107)), ([] : List (S107)), 0, 0, false, 0, 0, 0, false, false, false, ([] : List Bool), 0, 0, 0, ([] : List Int), 0, 0)) = some (r1, r2, r3, r4, r5, r6, r7, r8, r9, r10, r11, r12, r13, r14, r15, r16, r17, r18, r19, r20, r21, r22, r23, r24, r25, r26, r27, r28) := by rw [if_neg (show ¬ (false = true) by decide)] at H; exact H
  clear H
  have H := H1
  clear H1
  simp only [Option.some.injEq, Prod.mk.injEq] at H
  obtain ⟨rfl, rfl, rfl, rfl, rfl, rfl, rfl, rfl, rfl, rfl, rfl, rfl, rfl, rfl, rfl, rfl, rfl, rfl, rfl, rfl, rfl, rfl, rfl, rfl, rfl, rfl, rfl, rfl⟩ := H
  go_enter Try.func53, Try.ntmps53
  go_wp2_with (first | ((with_reducible refine gate_dst (N := 4) rfl ?_); refine box_event ?hg (N := 4) ?hd (cs := #[.int .i64 0, .int .i64 0, .int .i64 0, .int .i64 0, .int .i64 0, .int .i64 0, .bool false, .slice none 0 0, .int .i64 0, .int .i64 0, .slice none 0 0, .slice none 0 0, .int .i64 0, .int .i64 0, .bool false, .int .i64 0, .int .i64 0, .int .i64 0, .bool false, .bool false, .bool false, .slice none 0 0, .int .i64 0, .int .i64 0, .int .i64 0, .slice none 0 0, .int .i64 0, .int .i64 0]) (t := 84) ?hr ?_; (case hd => rfl); (case hg => rfl); (case hr => first | (go_simp; done) | (go_simp; rfl)); intro gb201 hg w14 hbox hb; have n0_ := Aside0.mk (below_step (by repeat (first | (with_reducible first | exact HB.out | apply below_alloc | apply pw_below_drewN | apply below_drew1) | exact HB.out)) hb); have n1_ := Aside0.mk (hbox); have n2_ := Aside0.mk ((by rw [hg]; exact (below_size (by repeat (first | (with_reducible first | exact HB.out | apply below_alloc | apply pw_below_drewN | apply below_drew1) | exact HB.out))) : w.heap.size ≤ gb201)); have n3_ := Aside0.mk ((by rw [hg]; exact (below_size (by repeat (first | (with_reducible first | exact HB.out | apply below_alloc | apply pw_below_drewN | apply below_drew1) | exact HB.out))) : w.heap.size ≤ gb201)); clear HB; have HB := n0_; have BK201 := n1_; have GW201 := n2_; have GE201 := n3_; clear n0_ n1_ n2_ n3_; clear hb hbox hg) | ((with_reducible refine gate_callee (f := 76) rfl ?_); refine goesL_ (some 7) rfl rfl Try.func76 (by kernel_rfl) rfl #[.int .i64 a0, .int .i64 a1] rfl (by (try simp only [List.map_toArray, List.map_cons, List.map_nil]); first | done | rfl | (simp only [List.length_drop, List.length_take]; rfl)) ?_; (with_reducible refine (impl_sizeOk.calls a0 a1 false _ A3.out).mono ?_); rintro e w' ⟨rfl, ⟨nd, rfl⟩⟩; refine ⟨_, rfl, ?_⟩; (try (rw [drewN_self w14]; generalize hq_ : World.drewN w14 _ = w14; have n0_ : Aside0 (w14.heap[gb201]? = some (.cells #[.int .i64 0, .int .i64 0, .int .i64 0, .int .i64 0, .int .i64 0, .int .i64 0, .bool false, .slice none 0 0, .int .i64 0, .int .i64 0, .slice none 0 0, .slice none 0 0, .int .i64 0, .int .i64 0, .bool false, .int .i64 0, .int .i64 0, .int .i64 0, .bool false, .bool false, .bool false, .slice none 0 0, .int .i64 0, .int .i64 0, .int .i64 0, .slice none 0 0, .int .i64 0, .int .i64 0] 84 (0, 0))) := ⟨by rw [← hq_]; exact (by (with_reducible repeat (first | refine blk_drewN ?_ _ | refine blk_drew ?_ | refine blk_alloc ?_ _)); exact BK201.out)⟩; have n1_ : Aside0 (Below w.heap.size w w14) := ⟨by rw [← hq_]; exact (by repeat (first | (with_reducible first | exact HB.out | apply below_alloc | apply pw_below_drewN | apply below_drew1 | refine below_set ?_ GE201.out) | exact HB.out))⟩; clear BK201 HB hq_; have BK201 := n0_; have HB := n1_; clear n0_ n1_)); have hcz15_0 : w14.cell? ⟨gb201, 0, none⟩ = some (.int .i64 0) := (blk_cell BK201.out 0).trans rfl; have hcz15_1 : w14.cell? ⟨gb201, 1, none⟩ = some (.int .i64 0) := (blk_cell BK201.out 1).trans rfl; have hcz15_2 : w14.cell? ⟨gb201, 2, none⟩ = some (.int .i64 0) := (blk_cell BK201.out 2).trans rfl; have hcz15_3 : w14.cell? ⟨gb201, 3, none⟩ = some (.int .i64 0) := (blk_cell BK201.out 3).trans rfl; have hcz15_4 : w14.cell? ⟨gb201, 4, none⟩ = some (.int .i64 0) := (blk_cell BK201.out 4).trans rfl; have hcz15_5 : w14.cell? ⟨gb201, 5, none⟩ = some (.int .i64 0) := (blk_cell BK201.out 5).trans rfl; have hcz15_6 : w14.cell? ⟨gb201, 6, none⟩ = some (.bool false) := (blk_cell BK201.out 6).trans rfl; have hcz15_7 : w14.cell? ⟨gb201, 7, none⟩ = some (.slice none 0 0) := (blk_cell BK201.out 7).trans rfl; have hcz15_8 : w14.cell? ⟨gb201, 8, none⟩ = some (.int .i64 0) := (blk_cell BK201.out 8).trans rfl; have hcz15_9 : w14.cell? ⟨gb201, 9, none⟩ = some (.int .i64 0) := (blk_cell BK201.out 9).trans rfl; have hcz15_10 : w14.cell? ⟨gb201, 10, none⟩ = some (.slice none 0 0) := (blk_cell BK201.out 10).trans rfl; have hcz15_11 : w14.cell? ⟨gb201, 11, none⟩ = some (.slice none 0 0) := (blk_cell BK201.out 11).trans rfl; have hcz15_12 : w14.cell? ⟨gb201, 12, none⟩ = some (.int .i64 0) := (blk_cell BK201.out 12).trans rfl; have hcz15_13 : w14.cell? ⟨gb201, 13, none⟩ = some (.int .i64 0) := (blk_cell BK201.out 13).trans rfl; have hcz15_14 : w14.cell? ⟨gb201, 14, none⟩ = some (.bool false) := (blk_cell BK201.out 14).trans rfl; have hcz15_15 : w14.cell? ⟨gb201, 15, none⟩ = some (.int .i64 0) := (blk_cell BK201.out 15).trans rfl; have hcz15_16 : w14.cell? ⟨gb201, 16, none⟩ = some (.int .i64 0) := (blk_cell BK201.out 16).trans rfl; have hcz15_17 : w14.cell? ⟨gb201, 17, none⟩ = some (.int .i64 0) := (blk_cell BK201.out 17).trans rfl; have hcz15_18 : w14.cell? ⟨gb201, 18, none⟩ = some (.bool false) := (blk_cell BK201.out 18).trans rfl; have hcz15_19 : w14.cell? ⟨gb201, 19, none⟩ = some (.bool false) := (blk_cell BK201.out 19).trans rfl; have hcz15_20 : w14.cell? ⟨gb201, 20, none⟩ = some (.bool false) := (blk_cell BK201.out 20).trans rfl; have hcz15_21 : w14.cell? ⟨gb201, 21, none⟩ = some (.slice none 0 0) := (blk_cell BK201.out 21).trans rfl; have hcz15_22 : w14.cell? ⟨gb201, 22, none⟩ = some (.int .i64 0) := (blk_cell BK201.out 22).trans rfl; have hcz15_23 : w14.cell? ⟨gb201, 23, none⟩ = some (.int .i64 0) := (blk_cell BK201.out 23).trans rfl; have hcz15_24 : w14.cell? ⟨gb201, 24, none⟩ = some (.int .i64 0) := (blk_cell BK201.out 24).trans rfl; have hcz15_25 : w14.cell? ⟨gb201, 25, none⟩ = some (.slice none 0 0) := (blk_cell BK201.out 25).trans rfl; have hcz15_26 : w14.cell? ⟨gb201, 26, none⟩ = some (.int .i64 0) := (blk_cell BK201.out 26).trans rfl; have hcz15_27 : w14.cell? ⟨gb201, 27, none⟩ = some (.int .i64 0) := (blk_cell BK201.out 27).trans rfl; have hfz15_0 := blk_frozen BK201.out 0; have hfz15_1 := blk_frozen BK201.out 1; have hfz15_2 := blk_frozen BK201.out 2; have hfz15_3 := blk_frozen BK201.out 3; have hfz15_4 := blk_frozen BK201.out 4; have hfz15_5 := blk_frozen BK201.out 5; have hfz15_6 := blk_frozen BK201.out 6; have hfz15_7 := blk_frozen BK201.out 7; have hfz15_8 := blk_frozen BK201.out 8; have hfz15_9 := blk_frozen BK201.out 9; have hfz15_10 := blk_frozen BK201.out 10; have hfz15_11 := blk_frozen BK201.out 11; have hfz15_12 := blk_frozen BK201.out 12; have hfz15_13 := blk_frozen BK201.out 13; have hfz15_14 := blk_frozen BK201.out 14; have hfz15_15 := blk_frozen BK201.out 15; have hfz15_16 := blk_frozen BK201.out 16; have hfz15_17 := blk_frozen BK201.out 17; have hfz15_18 := blk_frozen BK201.out 18; have hfz15_19 := blk_frozen BK201.out 19; have hfz15_20 := blk_frozen BK201.out 20; have hfz15_21 := blk_frozen BK201.out 21; have hfz15_22 := blk_frozen BK201.out 22; have hfz15_23 := blk_frozen BK201.out 23; have hfz15_24 := blk_frozen BK201.out 24; have hfz15_25 := blk_frozen BK201.out 25; have hfz15_26 := blk_frozen BK201.out 26; have hfz15_27 := blk_frozen BK201.out 27) | ((with_reducible refine gate_store (t := 84) (p := 4) rfl ?_); refine Go.Proofs.YtagipnepckgdfaaCells.store_whole (ty := 84) (x := .tmp 4) (y := ?vo_w16) (g := gb201) (cells := [.int .i64 3, .int .i64 0, .int .i64 0, .int .i64 0, .int .i64 0, .int .i64 0, .bool false, .slice none 0 0, .int .i64 0, .int .i64 0, .slice none 0 0, .slice none 0 0, .int .i64 0, .int .i64 0, .bool false, .int .i64 0, .int .i64 0, .int .i64 0, .bool false, .bool false, .bool false, .slice none 0 0, .int .i64 0, .int .i64 0, .int .i64 0, .slice none 0 0, .int .i64 0, .int .i64 0]) (t := 84) (old := [.int .i64 0, .int .i64 0, .int .i64 0, .int .i64 0, .int .i64 0, .int .i64 0, .bool false, .slice none 0 0, .int .i64 0, .int .i64 0, .slice none 0 0, .slice none 0 0, .int .i64 0, .int .i64 0, .bool false, .int .i64 0, .int .i64 0, .int .i64 0, .bool false, .bool false, .bool false, .slice none 0 0, .int .i64 0, .int .i64 0, .int .i64 0, .slice none 0 0, .int .i64 0, .int .i64 0]) ?hg ?ho ?hx ?hy ?hn ?hb ?hi rfl rfl ?_; (case ho => rfl); (case hg => rfl); (case hn => rfl); (case hx => rfl); (case hy => first | rfl | (go_simp; done) | (simp [*]; done)); (case hb => exact (by (with_reducible repeat (first | refine blk_drewN ?_ _ | refine blk_drew ?_ | refine blk_alloc ?_ _)); exact BK201.out)); (case hi => kernel_rfl); intro w16 hob_ hbk hfar hbel; have n0_ : Aside0 (w16.heap[gb201]? = some (.cells #[.int .i64 3, .int .i64 0, .int .i64 0, .int .i64 0, .int .i64 0, .int .i64 0, .bool false, .slice none 0 0, .int .i64 0, .int .i64 0, .slice none 0 0, .slice none 0 0, .int .i64 0, .int .i64 0, .bool false, .int .i64 0, .int .i64 0, .int .i64 0, .bool false, .bool false, .bool false, .slice none 0 0, .int .i64 0, .int .i64 0, .int .i64 0, .slice none 0 0, .int .i64 0, .int .i64 0] 84 (0, 0))) := ⟨hbk⟩; have n1_ : Aside0 (Below w.heap.size w w16) := ⟨hbel _ _ GE201.out (by repeat (first | (with_reducible first | exact HB.out | apply below_alloc | apply pw_below_drewN | apply below_drew1 | refine below_set ?_ GE201.out) | exact HB.out))⟩; clear hob_ hbk hfar hbel; clear BK201; clear HB; have BK201 := n0_; have HB := n1_; clear n0_ n1_))
  refine bodyPost_ret (results_cell_row rfl _ _ gb201 84 #[.int .i64 3, .int .i64 0, .int .i64 0, .int .i64 0, .int .i64 0, .int .i64 0, .bool false, .slice none 0 0, .int .i64 0, .int .i64 0, .slice none 0 0, .slice none 0 0, .int .i64 0, .int .i64 0, .bool false, .int .i64 0, .int .i64 0, .int .i64 0, .bool false, .bool false, .bool false, .slice none 0 0, .int .i64 0, .int .i64 0, .int .i64 0, .slice none 0 0, .int .i64 0, .int .i64 0] (0, 0) _ rfl (by (with_reducible repeat (first | refine blk_drewN ?_ _ | refine blk_drew ?_ | refine blk_alloc ?_ _)); exact BK201.out) Try.underlying84 rfl (by kernel_rfl)) rfl ?_
  exact ⟨_, _, _, _, _, by first | rfl | (simp [errW_none, errW_some] <;> rfl) | (simp [*, errW_none, errW_some] <;> rfl), by first | exact Kd.R_nil _ _ _ _ _ | exact Kd.N_nil _ _ _ _ _ | exact Kd.V_nil _ _ _ _ _ | exact Kd.Q_nil _ _ _ _ _ | exact Kd.S_nil _ _ _ _ _, by first | exact Kd.R_nil _ _ _ _ _ | exact Kd.N_nil _ _ _ _ _ | exact Kd.V_nil _ _ _ _ _ | exact Kd.Q_nil _ _ _ _ _ | exact Kd.S_nil _ _ _ _ _, by first | exact Kd.R_nil _ _ _ _ _ | exact Kd.N_nil _ _ _ _ _ | exact Kd.V_nil _ _ _ _ _ | exact Kd.Q_nil _ _ _ _ _ | exact Kd.S_nil _ _ _ _ _, by first | exact Kd.R_nil _ _ _ _ _ | exact Kd.N_nil _ _ _ _ _ | exact Kd.V_nil _ _ _ _ _ | exact Kd.Q_nil _ _ _ _ _ | exact Kd.S_nil _ _ _ _ _, by first | exact Kd.R_nil _ _ _ _ _ | exact Kd.N_nil _ _ _ _ _ | exact Kd.V_nil _ _ _ _ _ | exact Kd.Q_nil _ _ _ _ _ | exact Kd.S_nil _ _ _ _ _, by repeat (first | (with_reducible first | exact HB.out | apply below_alloc | apply pw_below_drewN | apply below_drew1 | refine below_set ?_ GE201.out) | exact HB.out)⟩

/-! ### laws_eqInt64S: function 65 -/
def laws_eqInt64S.l0 : Nat → List Int → List Int → Int → Option (Bool)
 | 0, _, _, _ => none
 | k + 1, x0, x1, x5 => if x5 < (x0.length : Int) then (if 0 ≤ x5 then (if x5 < (x1.length : Int) then (if (rd x0 x5) = (rd x1 x5) then (laws_eqInt64S.l0 k x0 x1 (wrap64 (x5 + 1))) else (some false)) else (none)) else (none)) else (some true)
def laws_eqInt64S.f (k : Nat) (l0 : List Int) (l1 : List Int) : Option (Bool) := if (l0.length : Int) = (l1.length : Int) then (laws_eqInt64S.l0 k l0 l1 0) else (some false)
theorem laws_eqInt64S.mono_l : ∀ k, (∀ y0 y1 y2, LeO (laws_eqInt64S.l0 k y0 y1 y2) (laws_eqInt64S.l0 (k + 1) y0 y1 y2))
 | 0 => fun _ _ _ r h => by simp [laws_eqInt64S.l0] at h
 | k + 1 => by
  have ih0 := laws_eqInt64S.mono_l k
  ·intro y0 y1 y2
   unfold laws_eqInt64S.l0
   repeat' first
   | (with_reducible exact ih0 _ _ _)
   | (with_reducible exact LeO.refl _)
   | (with_reducible exact LeO.none _)
   | (with_reducible refine LeO.ite ?_ ?_)
   | (with_reducible refine LeO.bind ?_ (fun _ => ?_))
   | exact ih0 _ _ _
   | exact LeO.none _
   | refine LeO.ite ?_ ?_
   | refine LeO.bind ?_ (fun _ => ?_)
theorem laws_eqInt64S.mono : ∀ a0 a1 k, LeO (laws_eqInt64S.f k a0 a1) (laws_eqInt64S.f (k + 1) a0 a1) := by
 intro a0 a1 k
 have ih0 := laws_eqInt64S.mono_l k
 unfold laws_eqInt64S.f
 repeat' first
   | (with_reducible exact ih0 _ _ _)
   | (with_reducible exact LeO.refl _)
   | (with_reducible exact LeO.none _)
   | (with_reducible refine LeO.ite ?_ ?_)
   | (with_reducible refine LeO.bind ?_ (fun _ => ?_))
   | exact ih0 _ _ _
   | exact LeO.none _
   | refine LeO.ite ?_ ?_
   | refine LeO.bind ?_ (fun _ => ?_)
set_option maxHeartbeats 8000000 in
set_option maxRecDepth 100000 in
theorem laws_eqInt64S.calls (k : Nat) (A0 : Option Addr) (c0 : Nat) (l0 : List Int) (A1 : Option Addr) (c1 : Nat) (l1 : List Int) (w : World) (hr0 : Kd.C (Kd.int .i64) w A0 l0.length l0) (hc0 : l0.length ≤ c0) (hr1 : Kd.C (Kd.int .i64) w A1 l1.length l1) (hc1 : l1.length ≤ c1) (h : laws_eqInt64S.f k l0 l1 = some true) :
  Calls Try.prog 65 #[.slice A0 l0.length c0, .slice A1 l1.length c1] w fun e w' => e = .returned (.bool true) ∧ Drawn0 w w' := by
 have HR0 := Aside0.mk hr0
 have HC0 := Aside0.mk hc0
 clear hr0 hc0
 have HR1 := Aside0.mk hr1
 have HC1 := Aside0.mk hc1
 clear hr1 hc1
 have H : (if (l0.length : Int) = (l1.length : Int) then (laws_eqInt64S.l0 k l0 l1 0) else (some false)) = some true := h
 clear h
 by_cases c3 : (l0.length : Int) = (l1.length : Int)
 ·rw [if_pos c3] at H
  have c3b0 : ((l0.length : Int) == (l1.length : Int)) = true := beq_iff_eq.mpr c3
  have c3b1 : ((l0.length : Int) != (l1.length : Int)) = false := bne_eq_false_iff_eq.mpr c3
  have c3b2 : (l0.length == l1.length) = true := by first | simpa using c3 | (simp at c3 ⊢; omega)
  clear c3
  have H' := Aside0.mk H
  clear H
  go_enter Try.func65, Try.ntmps65
  go_wp2
  repeat (go_quiet (fail); try go_wp2)
  go_loopg [5] k (fun kq v5 w' => ∃ (x5_1 : Int), v5 = .int .i64 x5_1 ∧ Aside0 (laws_eqInt64S.l0 kq l0 l1 x5_1 = some true) ∧ Aside0 (kq ≤ k) ∧ Drawn0 w w')
  case atStart => exact ⟨(0), (by first | rfl | (simp; done) | (simp [*]; done)), H', ⟨Nat.le_refl _⟩, by repeat (first | exact Drawn0.refl _ | apply Drawn0.step)⟩
  case round =>
   clear H'
   try clear c1
   try clear p2
   try clear c3
   try clear c3b0
   try clear c3b1
   try clear c3b2
   obtain ⟨x5_1, rfl, HA, HK1, ⟨m1, rfl⟩⟩ := hrel
   cases gk with
   | zero => exact absurd HA.out (by simp [laws_eqInt64S.l0])
   | succ k1 =>
    have H := HA.out
    clear HA
    simp only [laws_eqInt64S.l0] at H
    by_cases c4 : x5_1 < (l0.length : Int)
    ·rw [if_pos c4] at H
     have c4b0 : decide (x5_1 < (l0.length : Int)) = true := decide_eq_true c4
     clear c4
     by_cases c5 : 0 ≤ x5_1
     ·rw [if_pos c5] at H
      have c5b0 : decide (0 ≤ x5_1) = true := decide_eq_true c5
      clear c5
      by_cases c6 : x5_1 < (l1.length : Int)
      ·rw [if_pos c6] at H
       have c6b0 : decide (x5_1 < (l1.length : Int)) = true := decide_eq_true c6
       clear c6
       by_cases c7 : (rd l0 x5_1) = (rd l1 x5_1)
       ·rw [if_pos c7] at H
        have c7b0 : ((rd l0 x5_1) == (rd l1 x5_1)) = true := beq_iff_eq.mpr c7
        have c7b1 : ((rd l0 x5_1) != (rd l1 x5_1)) = false := bne_eq_false_iff_eq.mpr c7
        clear c7
        have H' := Aside0.mk H
        clear H
        have p231 : 0 ≤ (x5_1 : Int) := of_decide_eq_true (by first | (with_reducible assumption) | assumption)
        have q231 : x5_1 < (l0.length : Int) := of_decide_eq_true (by first | (with_reducible assumption) | assumption)
        obtain ⟨ad231, e231, hx231_0⟩ := Kd.at_int HR0.out x5_1 p231 q231
        cases e231
        replace p231 := eq_true p231
        replace q231 := eq_true q231
        have p232 : 0 ≤ (x5_1 : Int) := of_decide_eq_true (by first | (with_reducible assumption) | assumption)
        have q232 : x5_1 < (l1.length : Int) := of_decide_eq_true (by first | (with_reducible assumption) | assumption)
        obtain ⟨ad232, e232, hx232_0⟩ := Kd.at_int HR1.out x5_1 p232 q232
        cases e232
        replace p232 := eq_true p232
        replace q232 := eq_true q232
        go_wp2
        repeat (go_quiet (fail); try go_wp2)
        go_roundg k1
        case measure => have := HK1.out; omega
        case rel => exact ⟨(wrap64 (x5_1 + 1)), (by first | rfl | (simp; done) | (simp [*]; done)), H', ⟨by have := HK1.out; omega⟩, by repeat (first | exact Drawn0.refl _ | apply Drawn0.step)⟩
       ·rw [if_neg c7] at H
        have c7b0 : ((rd l0 x5_1) == (rd l1 x5_1)) = false := beq_eq_false_iff_ne.mpr c7
        have c7b1 : ((rd l0 x5_1) != (rd l1 x5_1)) = true := bne_iff_ne.mpr c7
        exact absurd H (by simp)
      ·rw [if_neg c6] at H
       exact absurd H (by simp)
     ·rw [if_neg c5] at H
      exact absurd H (by simp)
    ·rw [if_neg c4] at H
     have c4b0 : decide (x5_1 < (l0.length : Int)) = false := decide_eq_false c4
     clear c4
     go_wp2
     repeat (go_quiet (fail); try go_wp2)
     go_ret
     exact ⟨by first | rfl | (simp; done) | (simp [*]; done), by repeat (first | exact Drawn0.refl _ | apply Drawn0.step)⟩
 ·rw [if_neg c3] at H
  have c3b0 : ((l0.length : Int) == (l1.length : Int)) = false := beq_eq_false_iff_ne.mpr c3
  have c3b1 : ((l0.length : Int) != (l1.length : Int)) = true := bne_iff_ne.mpr c3
  have c3b2 : (l0.length == l1.length) = false := by first | simpa using c3 | (simp at c3 ⊢; omega)
  exact absurd H (by simp)

/-! ### laws_eqParser: function 22 -/
def laws_eqParser.f (k : Nat) (a0_0 : Int) (a0_1 : Int) (a0_2 : Bool) (l0_3 : List Int) (a1_0 : Int) (a1_1 : Int) (a1_2 : Bool) (l1_3 : List Int) : Option (Bool) := if a0_0 = a1_0 then (if a0_1 = a1_1 then (if (a0_2 != a1_2) = true then (some false) else ((laws_eqInt64S.f k l0_3 l1_3).bind fun t235 => (if t235 = true then (some true) else (some false)))) else (some false)) else (some false)
theorem laws_eqParser.mono : ∀ a0 a1 a2 a3 a4 a5 a6 a7 k, LeO (laws_eqParser.f k a0 a1 a2 a3 a4 a5 a6 a7) (laws_eqParser.f (k + 1) a0 a1 a2 a3 a4 a5 a6 a7) := by
 intro a0 a1 a2 a3 a4 a5 a6 a7 k
 unfold laws_eqParser.f
 repeat' first
   | (with_reducible exact laws_eqInt64S.mono _ _ _)
   | (with_reducible exact LeO.refl _)
   | (with_reducible exact LeO.none _)
   | (with_reducible refine LeO.ite ?_ ?_)
   | (with_reducible refine LeO.bind ?_ (fun _ => ?_))
   | exact laws_eqInt64S.mono _ _ _
   | exact LeO.none _
   | refine LeO.ite ?_ ?_
   | refine LeO.bind ?_ (fun _ => ?_)
set_option maxHeartbeats 8000000 in
set_option maxRecDepth 100000 in
theorem laws_eqParser.calls (k : Nat) (a0_0 : Int) (a0_1 : Int) (a0_2 : Bool) (A0_3 : Option Addr) (c0_3 : Nat) (l0_3 : List Int) (a1_0 : Int) (a1_1 : Int) (a1_2 : Bool) (A1_3 : Option Addr) (c1_3 : Nat) (l1_3 : List Int) (w : World) (hr0_3 : Kd.C (Kd.int .i64) w A0_3 l0_3.length l0_3) (hc0_3 : l0_3.length ≤ c0_3) (hr1_3 : Kd.C (Kd.int .i64) w A1_3 l1_3.length l1_3) (hc1_3 : l1_3.length ≤ c1_3) (h : laws_eqParser.f k a0_0 a0_1 a0_2 l0_3 a1_0 a1_1 a1_2 l1_3 = some true) :
  Calls Try.prog 22 #[.agg #[.int .i64 a0_0, .int .i64 a0_1, .bool a0_2, .slice A0_3 l0_3.length c0_3], .agg #[.int .i64 a1_0, .int .i64 a1_1, .bool a1_2, .slice A1_3 l1_3.length c1_3]] w fun e w' => e = .returned (.bool true) ∧ Below w.heap.size w w' := by
 have hu35 := Try.underlying35
 have HR0_3 := Aside0.mk hr0_3
 have HC0_3 := Aside0.mk hc0_3
 clear hr0_3 hc0_3
 have HR1_3 := Aside0.mk hr1_3
 have HC1_3 := Aside0.mk hc1_3
 clear hr1_3 hc1_3
 have HB := Aside0.mk (Below.refl w.heap.size w)
 have H : (if a0_0 = a1_0 then (if a0_1 = a1_1 then (if (a0_2 != a1_2) = true then (some false) else ((laws_eqInt64S.f k l0_3 l1_3).bind fun t235 => (if t235 = true then (some true) else (some false)))) else (some false)) else (some false)) = some true := h
 clear h
 by_cases c3 : a0_0 = a1_0
 ·rw [if_pos c3] at H
  have c3b0 : (a0_0 == a1_0) = true := beq_iff_eq.mpr c3
  have c3b1 : (a0_0 != a1_0) = false := bne_eq_false_iff_eq.mpr c3
  clear c3
  by_cases c4 : a0_1 = a1_1
  ·rw [if_pos c4] at H
   have c4b0 : (a0_1 == a1_1) = true := beq_iff_eq.mpr c4
   have c4b1 : (a0_1 != a1_1) = false := bne_eq_false_iff_eq.mpr c4
   clear c4
   by_cases c5 : (a0_2 != a1_2) = true
   ·rw [if_pos c5] at H
    have c5b0 : (a0_2 != a1_2) = true := c5
    (try (have c5b1 : decide (a0_2 = a1_2) = false := by simpa using c5))
    (try (have c5b2 : (a0_2 == a1_2) = false := by simpa using c5))
    (try (have c5b3 : ¬ (a0_2 = a1_2) := by simpa using c5))
    clear c5
    exact absurd H (by simp)
   ·rw [if_neg c5] at H
    have c5b0 : (a0_2 != a1_2) = false := by simpa using c5
    (try (have c5b1 : decide (a0_2 = a1_2) = true := by simpa using c5))
    (try (have c5b2 : (a0_2 == a1_2) = true := by simpa using c5))
    clear c5
    replace H := Option.bind_eq_some_iff.mp H
    obtain ⟨t235, A60, H⟩ := H
    replace H : (if t235 = true then (some true) else (some false)) = some true := H
    have A6 := Aside0.mk A60
    clear A60
    by_cases c7 : t235 = true
    ·subst c7
     have H1 : (some true) = some true := by rw [if_pos rfl] at H; (first | done | exact H)
     clear H
     have H := H1
     clear H1
     go_enter Try.func22, Try.ntmps22
     go_wp2_with (first | ((with_reducible refine gate_dst (N := 2) rfl ?_); refine box_event ?hg (N := 2) ?hd (cs := #[.int .i64 a0_0, .int .i64 a0_1, .bool a0_2, .slice A0_3 l0_3.length c0_3]) (t := 35) ?hr ?_; (case hd => rfl); (case hg => rfl); (case hr => first | (go_simp; done) | (go_simp; rfl)); intro gb233 hg w8 hbox hb; have n0_ := Aside0.mk (below_step (by repeat (first | (with_reducible first | exact HB.out | apply below_alloc | apply pw_below_drewN | apply below_drew1) | exact HB.out)) hb); have n1_ := Aside0.mk (hbox); have n2_ := Aside0.mk ((by rw [hg]; exact (below_size (by repeat (first | (with_reducible first | exact HB.out | apply below_alloc | apply pw_below_drewN | apply below_drew1) | exact HB.out))) : w.heap.size ≤ gb233)); have n3_ := Aside0.mk ((by rw [hg]; exact (below_size (by repeat (first | (with_reducible first | exact HB.out | apply below_alloc | apply pw_below_drewN | apply below_drew1) | exact HB.out))) : w.heap.size ≤ gb233)); clear HB; have HB := n0_; have BK233 := n1_; have GW233 := n2_; have GE233 := n3_; clear n0_ n1_ n2_ n3_; clear hb hbox hg) | ((with_reducible refine gate_dst (N := 3) rfl ?_); refine box_event ?hg (N := 3) ?hd (cs := #[.int .i64 a1_0, .int .i64 a1_1, .bool a1_2, .slice A1_3 l1_3.length c1_3]) (t := 35) ?hr ?_; (case hd => rfl); (case hg => rfl); (case hr => first | (go_simp; done) | (go_simp; rfl)); intro gb234 hg w9 hbox hb; have n0_ := Aside0.mk (blkb hb BK233.out); have n1_ := Aside0.mk (below_step (by repeat (first | (with_reducible first | exact HB.out | apply below_alloc | apply pw_below_drewN | apply below_drew1 | refine below_set ?_ GE233.out) | exact HB.out)) hb); have n2_ := Aside0.mk (hbox); have n3_ := Aside0.mk ((by rw [hg]; exact (below_size (by repeat (first | (with_reducible first | exact HB.out | apply below_alloc | apply pw_below_drewN | apply below_drew1 | refine below_set ?_ GE233.out) | exact HB.out))) : w.heap.size ≤ gb234)); have n4_ := Aside0.mk ((by rw [hg]; exact (below_size (by repeat (first | (with_reducible first | exact HB.out | apply below_alloc | apply pw_below_drewN | apply below_drew1 | refine below_set ?_ GE233.out) | exact HB.out))) : w.heap.size ≤ gb234)); have n5_ := Aside0.mk ((blkn hg BK233.out)); have n6_ := Aside0.mk ((blkm hg BK233.out)); clear BK233; clear HB; have BK233 := n0_; have HB := n1_; have BK234 := n2_; have GW234 := n3_; have GE234 := n4_; have NB233_234 := n5_; have NB234_233 := n6_; clear n0_ n1_ n2_ n3_ n4_ n5_ n6_; clear hb hbox hg; have hnb10 := NB233_234.out; have hnc10 := NB234_233.out; have hcz11_0 : w9.cell? ⟨gb233, 0, none⟩ = some (.int .i64 a0_0) := (blk_cell BK233.out 0).trans rfl; have hcz11_1 : w9.cell? ⟨gb233, 1, none⟩ = some (.int .i64 a0_1) := (blk_cell BK233.out 1).trans rfl; have hcz11_2 : w9.cell? ⟨gb233, 2, none⟩ = some (.bool a0_2) := (blk_cell BK233.out 2).trans rfl; have hcz11_3 : w9.cell? ⟨gb233, 3, none⟩ = some (.slice A0_3 l0_3.length c0_3) := (blk_cell BK233.out 3).trans rfl; have hfz11_0 := blk_frozen BK233.out 0; have hfz11_1 := blk_frozen BK233.out 1; have hfz11_2 := blk_frozen BK233.out 2; have hfz11_3 := blk_frozen BK233.out 3; have hcz12_0 : w9.cell? ⟨gb234, 0, none⟩ = some (.int .i64 a1_0) := (blk_cell BK234.out 0).trans rfl; have hcz12_1 : w9.cell? ⟨gb234, 1, none⟩ = some (.int .i64 a1_1) := (blk_cell BK234.out 1).trans rfl; have hcz12_2 : w9.cell? ⟨gb234, 2, none⟩ = some (.bool a1_2) := (blk_cell BK234.out 2).trans rfl; have hcz12_3 : w9.cell? ⟨gb234, 3, none⟩ = some (.slice A1_3 l1_3.length c1_3) := (blk_cell BK234.out 3).trans rfl; have hfz12_0 := blk_frozen BK234.out 0; have hfz12_1 := blk_frozen BK234.out 1; have hfz12_2 := blk_frozen BK234.out 2; have hfz12_3 := blk_frozen BK234.out 3) | ((with_reducible refine gate_callee (f := 65) rfl ?_); refine goesL_ (some 24) rfl rfl Try.func65 (by kernel_rfl) rfl #[.slice A0_3 l0_3.length c0_3, .slice A1_3 l1_3.length c1_3] rfl (by (try simp only [List.map_toArray, List.map_cons, List.map_nil]); first | done | rfl | (simp only [List.length_drop, List.length_take]; rfl)) ?_; (with_reducible refine (laws_eqInt64S.calls k _ _ l0_3 _ _ l1_3  _ ?side1 ?side2 ?side3 ?side4 A6.out).mono ?_); (case side1 => repeat (first | exact (Kd.C_below HR0_3.out HB.out) | (with_reducible refine Kd.C_alloc ?_ _) | (with_reducible refine Kd.C_drewN ?_ _) | (with_reducible refine Kd.C_drew ?_))); (case side2 => exact HC0_3.out); (case side3 => repeat (first | exact (Kd.C_below HR1_3.out HB.out) | (with_reducible refine Kd.C_alloc ?_ _) | (with_reducible refine Kd.C_drewN ?_ _) | (with_reducible refine Kd.C_drew ?_))); (case side4 => exact HC1_3.out); rintro e w' ⟨rfl, ⟨nd, rfl⟩⟩; refine ⟨_, rfl, ?_⟩))
     go_ret
     exact ⟨by first | rfl | (simp [errW_none, errW_some] <;> rfl) | (simp [*, errW_none, errW_some] <;> rfl), by repeat (first | (with_reducible first | exact HB.out | apply below_alloc | apply pw_below_drewN | apply below_drew1 | refine below_set ?_ GE233.out | refine below_set ?_ GE234.out) | exact HB.out)⟩
    ·replace c7 := Bool.eq_false_iff.mpr c7
     subst c7
     have H1 : (some false) = some true := by rw [if_neg (show ¬ (false = true) by decide)] at H; (first | done | exact H)
     clear H
     have H := H1
     clear H1
     exact absurd H (by simp)
  ·rw [if_neg c4] at H
   have c4b0 : (a0_1 == a1_1) = false := beq_eq_false_iff_ne.mpr c4
   have c4b1 : (a0_1 != a1_1) = true := bne_iff_ne.mpr c4
   exact absurd H (by simp)
 ·rw [if_neg c3] at H
  have c3b0 : (a0_0 == a1_0) = false := beq_eq_false_iff_ne.mpr c3
  have c3b1 : (a0_0 != a1_0) = true := bne_iff_ne.mpr c3
  exact absurd H (by simp)

/-! ### laws_eqCell: function 111 -/
def laws_eqCell.f (a0_0 : Int) (a0_1 : Int) (a1_0 : Int) (a1_1 : Int) : Option (Bool) := if a0_0 = a1_0 then (if a0_1 = a1_1 then (some true) else (some false)) else (some false)
set_option maxHeartbeats 8000000 in
set_option maxRecDepth 100000 in
theorem laws_eqCell.calls (a0_0 : Int) (a0_1 : Int) (a1_0 : Int) (a1_1 : Int) (w : World) (h : laws_eqCell.f a0_0 a0_1 a1_0 a1_1 = some true) :
  Calls Try.prog 111 #[.agg #[.int .i64 a0_0, .int .i64 a0_1], .agg #[.int .i64 a1_0, .int .i64 a1_1]] w fun e w' => e = .returned (.bool true) ∧ Below w.heap.size w w' := by
 have hu107 := Try.underlying107
 have HB := Aside0.mk (Below.refl w.heap.size w)
 have H : (if a0_0 = a1_0 then (if a0_1 = a1_1 then (some true) else (some false)) else (some false)) = some true := h
 clear h
 by_cases c3 : a0_0 = a1_0
 ·rw [if_pos c3] at H
  have c3b0 : (a0_0 == a1_0) = true := beq_iff_eq.mpr c3
  have c3b1 : (a0_0 != a1_0) = false := bne_eq_false_iff_eq.mpr c3
  clear c3
  by_cases c4 : a0_1 = a1_1
  ·rw [if_pos c4] at H
   have c4b0 : (a0_1 == a1_1) = true := beq_iff_eq.mpr c4
   have c4b1 : (a0_1 != a1_1) = false := bne_eq_false_iff_eq.mpr c4
   clear c4
   go_enter Try.func111, Try.ntmps111
   go_wp2_with (first | ((with_reducible refine gate_dst (N := 2) rfl ?_); refine box_event ?hg (N := 2) ?hd (cs := #[.int .i64 a0_0, .int .i64 a0_1]) (t := 107) ?hr ?_; (case hd => rfl); (case hg => rfl); (case hr => first | (go_simp; done) | (go_simp; rfl)); intro gb236 hg w5 hbox hb; have n0_ := Aside0.mk (below_step (by repeat (first | (with_reducible first | exact HB.out | apply below_alloc | apply pw_below_drewN | apply below_drew1) | exact HB.out)) hb); have n1_ := Aside0.mk (hbox); have n2_ := Aside0.mk ((by rw [hg]; exact (below_size (by repeat (first | (with_reducible first | exact HB.out | apply below_alloc | apply pw_below_drewN | apply below_drew1) | exact HB.out))) : w.heap.size ≤ gb236)); have n3_ := Aside0.mk ((by rw [hg]; exact (below_size (by repeat (first | (with_reducible first | exact HB.out | apply below_alloc | apply pw_below_drewN | apply below_drew1) | exact HB.out))) : w.heap.size ≤ gb236)); clear HB; have HB := n0_; have BK236 := n1_; have GW236 := n2_; have GE236 := n3_; clear n0_ n1_ n2_ n3_; clear hb hbox hg) | ((with_reducible refine gate_dst (N := 3) rfl ?_); refine box_event ?hg (N := 3) ?hd (cs := #[.int .i64 a1_0, .int .i64 a1_1]) (t := 107) ?hr ?_; (case hd => rfl); (case hg => rfl); (case hr => first | (go_simp; done) | (go_simp; rfl)); intro gb237 hg w6 hbox hb; have n0_ := Aside0.mk (blkb hb BK236.out); have n1_ := Aside0.mk (below_step (by repeat (first | (with_reducible first | exact HB.out | apply below_alloc | apply pw_below_drewN | apply below_drew1 | refine below_set ?_ GE236.out) | exact HB.out)) hb); have n2_ := Aside0.mk (hbox); have n3_ := Aside0.mk ((by rw [hg]; exact (below_size (by repeat (first | (with_reducible first | exact HB.out | apply below_alloc | apply pw_below_drewN | apply below_drew1 | refine below_set ?_ GE236.out) | exact HB.out))) : w.heap.size ≤ gb237)); have n4_ := Aside0.mk ((by rw [hg]; exact (below_size (by repeat (first | (with_reducible first | exact HB.out | apply below_alloc | apply pw_below_drewN | apply below_drew1 | refine below_set ?_ GE236.out) | exact HB.out))) : w.heap.size ≤ gb237)); have n5_ := Aside0.mk ((blkn hg BK236.out)); have n6_ := Aside0.mk ((blkm hg BK236.out)); clear BK236; clear HB; have BK236 := n0_; have HB := n1_; have BK237 := n2_; have GW237 := n3_; have GE237 := n4_; have NB236_237 := n5_; have NB237_236 := n6_; clear n0_ n1_ n2_ n3_ n4_ n5_ n6_; clear hb hbox hg; have hnb7 := NB236_237.out; have hnc7 := NB237_236.out; have hcz8_0 : w6.cell? ⟨gb236, 0, none⟩ = some (.int .i64 a0_0) := (blk_cell BK236.out 0).trans rfl; have hcz8_1 : w6.cell? ⟨gb236, 1, none⟩ = some (.int .i64 a0_1) := (blk_cell BK236.out 1).trans rfl; have hfz8_0 := blk_frozen BK236.out 0; have hfz8_1 := blk_frozen BK236.out 1; have hcz9_0 : w6.cell? ⟨gb237, 0, none⟩ = some (.int .i64 a1_0) := (blk_cell BK237.out 0).trans rfl; have hcz9_1 : w6.cell? ⟨gb237, 1, none⟩ = some (.int .i64 a1_1) := (blk_cell BK237.out 1).trans rfl; have hfz9_0 := blk_frozen BK237.out 0; have hfz9_1 := blk_frozen BK237.out 1))
   go_ret
   exact ⟨by first | rfl | (simp [errW_none, errW_some] <;> rfl) | (simp [*, errW_none, errW_some] <;> rfl), by repeat (first | (with_reducible first | exact HB.out | apply below_alloc | apply pw_below_drewN | apply below_drew1 | refine below_set ?_ GE236.out | refine below_set ?_ GE237.out) | exact HB.out)⟩
  ·rw [if_neg c4] at H
   have c4b0 : (a0_1 == a1_1) = false := beq_eq_false_iff_ne.mpr c4
   have c4b1 : (a0_1 != a1_1) = true := bne_iff_ne.mpr c4
   exact absurd H (by simp)
 ·rw [if_neg c3] at H
  have c3b0 : (a0_0 == a1_0) = false := beq_eq_false_iff_ne.mpr c3
  have c3b1 : (a0_0 != a1_0) = true := bne_iff_ne.mpr c3
  exact absurd H (by simp)

end Go.Proofs.Ytagipnepckgdfaa.PFnExactNewVt
