-- Written for this claim by a program of this session's (wip/p2.sh).
import Derived.Test.YtagipnepckgdfaaPFnExactNewVtx0
import Derived.Test.YtagipnepckgdfaaShort
import Derived.Test.YtagipnepckgdfaaPFnExactNewVtx2
namespace Go.Proofs.Ytagipnepckgdfaa.PFnExactNewVt
open Go.RowKit Go.Proofs.YtagipnepckgdfaaW.PrintWords Go.Proofs.YtagipnepckgdfaaW.PrintLast Go.Proofs.YtagipnepckgdfaaW.PrintMore Go.Proofs.YtagipnepckgdfaaShort
attribute [local go_sem] max2_int min2_int max_two min_two max_three min_three max_four min_four   -- for this text's walks alone
set_option linter.unusedVariables false
set_option linter.unusedSimpArgs false

/-! ### laws_eqCellS: function 74 -/
def laws_eqCellS.l0 : Nat → List (S107) → List (S107) → Int → Option (Bool)
 | 0, _, _, _ => none
 | k + 1, x0, x1, x5 => if x5 < (x0.length : Int) then (if 0 ≤ x5 then (if x5 < (x1.length : Int) then ((laws_eqCell.f ((rd_T107 x0 x5).f0) ((rd_T107 x0 x5).f1) ((rd_T107 x1 x5).f0) ((rd_T107 x1 x5).f1)).bind fun t240 => (if t240 = true then (laws_eqCellS.l0 k x0 x1 (wrap64 (x5 + 1))) else (some false))) else (none)) else (none)) else (some true)
def laws_eqCellS.f (k : Nat) (l0 : List (S107)) (l1 : List (S107)) : Option (Bool) := if (l0.length : Int) = (l1.length : Int) then (laws_eqCellS.l0 k l0 l1 0) else (some false)
theorem laws_eqCellS.mono_l : ∀ k, (∀ y0 y1 y2, LeO (laws_eqCellS.l0 k y0 y1 y2) (laws_eqCellS.l0 (k + 1) y0 y1 y2))
 | 0 => fun _ _ _ r h => by simp [laws_eqCellS.l0] at h
 | k + 1 => by
  have ih0 := laws_eqCellS.mono_l k
  ·intro y0 y1 y2
   unfold laws_eqCellS.l0
   repeat' first
   | (with_reducible exact ih0 _ _ _)
   | (with_reducible exact LeO.refl _)
   | (with_reducible exact LeO.none _)
   | (with_reducible refine LeO.ite ?_ ?_)
   | (with_reducible refine LeO.bind ?_ (fun _ => ?_))
   | exact ih0 _ _ _
   | exact LeO.none _
   | refine LeO.ite ?_ ?_
   | refine LeO.bind ?_ (fun _ => ?_)
theorem laws_eqCellS.mono : ∀ a0 a1 k, LeO (laws_eqCellS.f k a0 a1) (laws_eqCellS.f (k + 1) a0 a1) := by
 intro a0 a1 k
 have ih0 := laws_eqCellS.mono_l k
 unfold laws_eqCellS.f
 repeat' first
   | (with_reducible exact ih0 _ _ _)
   | (with_reducible exact LeO.refl _)
   | (with_reducible exact LeO.none _)
   | (with_reducible refine LeO.ite ?_ ?_)
   | (with_reducible refine LeO.bind ?_ (fun _ => ?_))
   | exact ih0 _ _ _
   | exact LeO.none _
   | refine LeO.ite ?_ ?_
   | refine LeO.bind ?_ (fun _ => ?_)
def laws_eqCellS.T6 : Bool × List (List Nat × List Nat) := (true, [([], []), ([], []), ([0, 1], [0, 1]), ([2], [2]), ([], []), ([], []), ([4, 5], [4, 5]), ([6], [6]), ([3, 7], [3, 7]), ([8], [8])])
def laws_eqCellS.B6 : List Nat := [0, 0, 3, 7, 0, 0, 48, 112, 255, 511]
theorem laws_eqCellS.tab6 : rtab .any (opsOf Try.f74 6) = laws_eqCellS.T6 := by kernel_rfl
theorem laws_eqCellS.bits6 : waitsOk laws_eqCellS.T6.2 laws_eqCellS.B6 = true := by kernel_rfl
set_option maxHeartbeats 8000000 in
set_option maxRecDepth 100000 in
theorem laws_eqCellS.calls (k : Nat) (A0 : Option Addr) (c0 : Nat) (l0 : List (S107)) (A1 : Option Addr) (c1 : Nat) (l1 : List (S107)) (w : World) (hr0 : Kd.C k107 w A0 l0.length l0) (hc0 : l0.length ≤ c0) (hr1 : Kd.C k107 w A1 l1.length l1) (hc1 : l1.length ≤ c1) (h : laws_eqCellS.f k l0 l1 = some true) :
  Calls Try.prog 74 #[.slice A0 l0.length c0, .slice A1 l1.length c1] w fun e w' => e = .returned (.bool true) ∧ Below w.heap.size w w' := by
 have hu107 := Try.underlying107
 have HR0 := Aside0.mk hr0
 have HC0 := Aside0.mk hc0
 clear hr0 hc0
 have HR1 := Aside0.mk hr1
 have HC1 := Aside0.mk hc1
 clear hr1 hc1
 have HB := Aside0.mk (Below.refl w.heap.size w)
 have H : (if (l0.length : Int) = (l1.length : Int) then (laws_eqCellS.l0 k l0 l1 0) else (some false)) = some true := h
 clear h
 by_cases c3 : (l0.length : Int) = (l1.length : Int)
 ·rw [if_pos c3] at H
  have c3b0 : ((l0.length : Int) == (l1.length : Int)) = true := beq_iff_eq.mpr c3
  have c3b1 : ((l0.length : Int) != (l1.length : Int)) = false := bne_eq_false_iff_eq.mpr c3
  have c3b2 : (l0.length == l1.length) = true := by first | simpa using c3 | (simp at c3 ⊢; omega)
  clear c3
  have H' := Aside0.mk H
  clear H
  go_enter Try.func74, Try.ntmps74
  go_wp2
  go_loopg [5] k (fun kq v5 w' => ∃ (x5_1 : Int), v5 = .int .i64 x5_1 ∧ Aside0 (laws_eqCellS.l0 kq l0 l1 x5_1 = some true) ∧ Aside0 (kq ≤ k) ∧ Aside0 (Below w.heap.size w w'))
  case atStart => exact ⟨(0), (by first | rfl | (simp; done) | (simp [*]; done)), H', ⟨Nat.le_refl _⟩, ⟨by repeat (first | (with_reducible first | exact HB.out | apply below_alloc | apply pw_below_drewN | apply below_drew1) | exact HB.out)⟩⟩
  case round =>
   clear H'
   try clear c1
   try clear p2
   try clear c3
   try clear c3b0
   try clear c3b1
   try clear c3b2
   obtain ⟨x5_1, rfl, HA, HK1, HB⟩ := hrel
   cases gk with
   | zero => exact absurd HA.out (by simp [laws_eqCellS.l0])
   | succ k1 =>
    have H := HA.out
    clear HA
    simp only [laws_eqCellS.l0] at H
    by_cases c4 : x5_1 < (l0.length : Int)
    ·rw [if_pos c4] at H
     have c4b0 : decide (x5_1 < (l0.length : Int)) = true := decide_eq_true c4
     clear c4
     by_cases c5 : 0 ≤ x5_1
     ·rw [if_pos c5] at H
      have c5b0 : decide (0 ≤ x5_1) = true := decide_eq_true c5
      clear c5
      by_cases c6 : x5_1 < (l1.length : Int)
      ·rw [if_pos c6] at H
       have c6b0 : decide (x5_1 < (l1.length : Int)) = true := decide_eq_true c6
       clear c6
       replace H := Option.bind_eq_some_iff.mp H
       obtain ⟨t240, A70, H⟩ := H
       replace H : (if t240 = true then (laws_eqCellS.l0 k1 l0 l1 (wrap64 (x5_1 + 1))) else (some false)) = some true := H
       have A7 := Aside0.mk A70
       clear A70
       by_cases c8 : t240 = true
       ·subst c8
        have H1 : (laws_eqCellS.l0 k1 l0 l1 (wrap64 (x5_1 + 1))) = some true := by rw [if_pos rfl] at H; (first | done | exact H)
        clear H
        have H := H1
        clear H1
        have H' := Aside0.mk H
        clear H
        try go_wp2
        have n0_ := Aside0.mk (below_drew1 HB.out)
        clear HB
        have HB := n0_
        clear n0_
        have p238 : 0 ≤ (x5_1 : Int) := of_decide_eq_true (by first | (with_reducible assumption) | assumption)
        have q238 : x5_1 < (l0.length : Int) := of_decide_eq_true (by first | (with_reducible assumption) | assumption)
        obtain ⟨ad238, e238, hx238_0, hx238_1⟩ := at_T107 HR0.out x5_1 p238 q238
        have hw238_1 := hx238_1
        have hw238_0 := hx238_0
        cases e238
        replace hx238_0 := (HB.out.cell (World.block_lt_of_cell? w _ hx238_0)).trans hx238_0
        replace hx238_1 := (HB.out.cell (World.block_lt_of_cell? w _ hx238_1)).trans hx238_1
        replace p238 := eq_true p238
        replace q238 := eq_true q238
        have p239 : 0 ≤ (x5_1 : Int) := of_decide_eq_true (by first | (with_reducible assumption) | assumption)
        have q239 : x5_1 < (l1.length : Int) := of_decide_eq_true (by first | (with_reducible assumption) | assumption)
        obtain ⟨ad239, e239, hx239_0, hx239_1⟩ := at_T107 HR1.out x5_1 p239 q239
        have hw239_1 := hx239_1
        have hw239_0 := hx239_0
        cases e239
        replace hx239_0 := (HB.out.cell (World.block_lt_of_cell? w _ hx239_0)).trans hx239_0
        replace hx239_1 := (HB.out.cell (World.block_lt_of_cell? w _ hx239_1)).trans hx239_1
        replace p239 := eq_true p239
        replace q239 := eq_true q239
        refine start_ (n := 10) (S := fun w' => w'.cell? (ad238.add ((x5_1).toNat * 2)) = some (.int .i64 ((rd_T107 l0 x5_1).f0)) ∧ w'.cell? ⟨(ad238.add ((x5_1).toNat * 2)).block, (ad238.add ((x5_1).toNat * 2)).off + 1, none⟩ = some (.int .i64 ((rd_T107 l0 x5_1).f1)) ∧ w'.cell? (ad239.add ((x5_1).toNat * 2)) = some (.int .i64 ((rd_T107 l1 x5_1).f0)) ∧ w'.cell? ⟨(ad239.add ((x5_1).toNat * 2)).block, (ad239.add ((x5_1).toNat * 2)).off + 1, none⟩ = some (.int .i64 ((rd_T107 l1 x5_1).f1))) (ds := []) #[false, false, false, false, false, false, false, false, false, false] (by kernel_rfl) rfl rfl ⟨((HB.out.cell (World.block_lt_of_cell? w _ hw238_0)).trans hw238_0), ((HB.out.cell (World.block_lt_of_cell? w _ hw238_1)).trans hw238_1), ((HB.out.cell (World.block_lt_of_cell? w _ hw239_0)).trans hw239_0), ((HB.out.cell (World.block_lt_of_cell? w _ hw239_1)).trans hw239_1)⟩ (fun hHeld => ?_); refine with_tabW laws_eqCellS.tab6 laws_eqCellS.bits6 (fun HT_ HW_ => ?_)
        generalize wr.drew = w9 at HB hx238_0 hx238_1 hx239_0 hx239_1 hHeld ⊢
        refine pure_ (i := 0) (N := some 17) (v := ?_) (a' := ?_) #[true, false, false, false, false, false, false, false, false, false] rfl rfl (any_of HT_.out (by kernel_rfl)) (fun _ _ _ h => h) (Or.inl ⟨by rfl, ?_⟩) ?_ ?_
        rotate_left
        ·intro w'
         go_simp
         with_reducible rfl
        rotate_left
        ·simp only [Act.put, List.setIfInBounds_toArray, List.set_cons_zero, List.set_cons_succ, i64_w, i32_w]
         rfl
        refine pure_ (i := 1) (N := some 18) (v := ?_) (a' := ?_) #[true, true, false, false, false, false, false, false, false, false] rfl rfl (any_of HT_.out (by kernel_rfl)) (fun _ _ _ h => h) (Or.inl ⟨by rfl, ?_⟩) ?_ ?_
        rotate_left
        ·intro w'
         go_simp
         with_reducible rfl
        rotate_left
        ·simp only [Act.put, List.setIfInBounds_toArray, List.set_cons_zero, List.set_cons_succ, i64_w, i32_w]
         rfl
        refine pure_ (i := 2) (N := some 19) (v := ?_) (a' := ?_) #[true, true, true, false, false, false, false, false, false, false] rfl rfl (any_of HT_.out (by kernel_rfl)) (fun _ _ _ h => h) (Or.inl ⟨by rfl, ?_⟩) ?_ ?_
        rotate_left
        ·intro w'
         go_simp
         with_reducible rfl
        rotate_left
        ·simp only [Act.put, List.setIfInBounds_toArray, List.set_cons_zero, List.set_cons_succ, i64_w, i32_w]
         rfl
        refine pure_ (i := 4) (N := some 21) (v := ?_) (a' := ?_) #[true, true, true, false, true, false, false, false, false, false] rfl rfl (any_of HT_.out (by kernel_rfl)) (fun _ _ _ h => h) (Or.inl ⟨by rfl, ?_⟩) ?_ ?_
        rotate_left
        ·intro w'
         go_simp
         with_reducible rfl
        rotate_left
        ·simp only [Act.put, List.setIfInBounds_toArray, List.set_cons_zero, List.set_cons_succ, i64_w, i32_w]
         rfl
        refine pure_ (i := 5) (N := some 22) (v := ?_) (a' := ?_) #[true, true, true, false, true, true, false, false, false, false] rfl rfl (any_of HT_.out (by kernel_rfl)) (fun _ _ _ h => h) (Or.inl ⟨by rfl, ?_⟩) ?_ ?_
        rotate_left
        ·intro w'
         go_simp
         with_reducible rfl
        rotate_left
        ·simp only [Act.put, List.setIfInBounds_toArray, List.set_cons_zero, List.set_cons_succ, i64_w, i32_w]
         rfl
        refine pure_ (i := 6) (N := some 23) (v := ?_) (a' := ?_) #[true, true, true, false, true, true, true, false, false, false] rfl rfl (any_of HT_.out (by kernel_rfl)) (fun _ _ _ h => h) (Or.inl ⟨by rfl, ?_⟩) ?_ ?_
        rotate_left
        ·intro w'
         go_simp
         with_reducible rfl
        rotate_left
        ·simp only [Act.put, List.setIfInBounds_toArray, List.set_cons_zero, List.set_cons_succ, i64_w, i32_w]
         rfl
        refine take_ (i := 3) (N := some 20) (v := ?_) (a' := ?_) #[true, true, true, true, true, true, true, false, false, false] rfl rfl (take_ofW HT_.out HW_.out (by kernel_rfl)) (fun _ _ _ h => h) (Or.inl ⟨by rfl, ?_⟩) hHeld ?_ ?_
        rotate_left
        ·rintro w' ⟨s0, s1, s2, s3⟩
         go_simp
         with_reducible rfl
        rotate_left
        ·simp only [Act.put, List.setIfInBounds_toArray, List.set_cons_zero, List.set_cons_succ, i64_w, i32_w]
         rfl
        refine take_ (i := 7) (N := some 24) (v := ?_) (a' := ?_) #[true, true, true, true, true, true, true, true, false, false] rfl rfl (take_ofW HT_.out HW_.out (by kernel_rfl)) (fun _ _ _ h => h) (Or.inl ⟨by rfl, ?_⟩) hHeld ?_ ?_
        rotate_left
        ·rintro w' ⟨s0, s1, s2, s3⟩
         go_simp
         with_reducible rfl
        rotate_left
        ·simp only [Act.put, List.setIfInBounds_toArray, List.set_cons_zero, List.set_cons_succ, i64_w, i32_w]
         rfl
        refine one_ (i := 8) (N := some 25) #[true, true, true, true, true, true, true, true, true, false] rfl rfl (one_of HT_.out (by kernel_rfl)) (by decide) (fun K hK => ?_)
        refine goes_ Try.func111 (by kernel_rfl) rfl #[.agg #[.int .i64 ((rd_T107 l0 x5_1).f0), .int .i64 ((rd_T107 l0 x5_1).f1)], .agg #[.int .i64 ((rd_T107 l1 x5_1).f0), .int .i64 ((rd_T107 l1 x5_1).f1)]] (by rfl) rfl rfl (by (try simp only [List.map_toArray, List.map_cons, List.map_nil]); first | done | rfl | (simp only [List.length_drop, List.length_take]; rfl)) ?_
        with_reducible refine (laws_eqCell.calls ((rd_T107 l0 x5_1).f0) ((rd_T107 l0 x5_1).f1) ((rd_T107 l1 x5_1).f0) ((rd_T107 l1 x5_1).f1)  _ A7.out).mono ?_
        rintro e w10 ⟨rfl, hb⟩
        refine ⟨_, rfl, ?_⟩
        have n0_ := Aside0.mk (below_step (by repeat (first | (with_reducible first | exact HB.out | apply below_alloc | apply pw_below_drewN | apply below_drew1) | exact HB.out)) hb)
        clear HB
        have HB := n0_
        clear n0_
        (try clear hb)
        (try clear hb2)
        (try clear hk)
        (try clear hi)
        refine hK.out _ _ ⟨((HB.out.cell (World.block_lt_of_cell? w _ hw238_0)).trans hw238_0), ((HB.out.cell (World.block_lt_of_cell? w _ hw238_1)).trans hw238_1), ((HB.out.cell (World.block_lt_of_cell? w _ hw239_0)).trans hw239_0), ((HB.out.cell (World.block_lt_of_cell? w _ hw239_1)).trans hw239_1)⟩ (fun hHeld => ?_)
        clear hK K
        refine norm_ (a' := ?_) ?_ ?_
        rotate_left
        ·show Act.put _ (some 25) _ = _
         simp only [Act.put, List.setIfInBounds_toArray, List.set_cons_zero, List.set_cons_succ, i64_w, i32_w]
         rfl
        refine pure_ (i := 9) (N := some 26) (v := ?_) (a' := ?_) #[true, true, true, true, true, true, true, true, true, true] rfl rfl (any_of HT_.out (by kernel_rfl)) (fun _ _ _ h => h) (Or.inl ⟨by rfl, ?_⟩) ?_ ?_
        rotate_left
        ·intro w'
         go_simp
         with_reducible rfl
        rotate_left
        ·simp only [Act.put, List.setIfInBounds_toArray, List.set_cons_zero, List.set_cons_succ, i64_w, i32_w]
         rfl
        refine done_ (done_of HT_.out (by kernel_rfl)) ?_
        try go_wp2
        go_roundg k1
        case measure => have := HK1.out; omega
        case rel => exact ⟨(wrap64 (x5_1 + 1)), (by first | rfl | (simp; done) | (simp [*]; done)), H', ⟨by have := HK1.out; omega⟩, ⟨by repeat (first | (with_reducible first | exact HB.out | apply below_alloc | apply pw_below_drewN | apply below_drew1) | exact HB.out)⟩⟩
       ·replace c8 := Bool.eq_false_iff.mpr c8
        subst c8
        have H1 : (some false) = some true := by rw [if_neg (show ¬ (false = true) by decide)] at H; (first | done | exact H)
        clear H
        have H := H1
        clear H1
        exact absurd H (by simp)
      ·rw [if_neg c6] at H
       exact absurd H (by simp)
     ·rw [if_neg c5] at H
      exact absurd H (by simp)
    ·rw [if_neg c4] at H
     have c4b0 : decide (x5_1 < (l0.length : Int)) = false := decide_eq_false c4
     clear c4
     go_wp2
     go_ret
     exact ⟨by first | rfl | (simp [errW_none, errW_some] <;> rfl) | (simp [*, errW_none, errW_some] <;> rfl), by repeat (first | (with_reducible first | exact HB.out | apply below_alloc | apply pw_below_drewN | apply below_drew1) | exact HB.out)⟩
 ·rw [if_neg c3] at H
  have c3b0 : ((l0.length : Int) == (l1.length : Int)) = false := beq_eq_false_iff_ne.mpr c3
  have c3b1 : ((l0.length : Int) != (l1.length : Int)) = true := bne_iff_ne.mpr c3
  have c3b2 : (l0.length == l1.length) = false := by first | simpa using c3 | (simp at c3 ⊢; omega)
  exact absurd H (by simp)

/-! ### laws_eqGrid: function 29 -/
def laws_eqGrid.f (k : Nat) (a0_0 : Int) (a0_1 : Int) (l0_2 : List (S107)) (l0_3 : List (S107)) (a1_0 : Int) (a1_1 : Int) (l1_2 : List (S107)) (l1_3 : List (S107)) : Option (Bool) := if a0_0 = a1_0 then (if a0_1 = a1_1 then ((laws_eqCellS.f k l0_2 l1_2).bind fun t243 => (if t243 = true then ((laws_eqCellS.f k l0_3 l1_3).bind fun t244 => (if t244 = true then (some true) else (some false))) else (some false))) else (some false)) else (some false)
theorem laws_eqGrid.mono : ∀ a0 a1 a2 a3 a4 a5 a6 a7 k, LeO (laws_eqGrid.f k a0 a1 a2 a3 a4 a5 a6 a7) (laws_eqGrid.f (k + 1) a0 a1 a2 a3 a4 a5 a6 a7) := by
 intro a0 a1 a2 a3 a4 a5 a6 a7 k
 unfold laws_eqGrid.f
 repeat' first
   | (with_reducible exact laws_eqCellS.mono _ _ _)
   | (with_reducible exact LeO.refl _)
   | (with_reducible exact LeO.none _)
   | (with_reducible refine LeO.ite ?_ ?_)
   | (with_reducible refine LeO.bind ?_ (fun _ => ?_))
   | exact laws_eqCellS.mono _ _ _
   | exact LeO.none _
   | refine LeO.ite ?_ ?_
   | refine LeO.bind ?_ (fun _ => ?_)
set_option maxHeartbeats 8000000 in
set_option maxRecDepth 100000 in
theorem laws_eqGrid.calls (k : Nat) (a0_0 : Int) (a0_1 : Int) (A0_2 : Option Addr) (c0_2 : Nat) (l0_2 : List (S107)) (A0_3 : Option Addr) (c0_3 : Nat) (l0_3 : List (S107)) (a1_0 : Int) (a1_1 : Int) (A1_2 : Option Addr) (c1_2 : Nat) (l1_2 : List (S107)) (A1_3 : Option Addr) (c1_3 : Nat) (l1_3 : List (S107)) (w : World) (hr0_2 : Kd.C k107 w A0_2 l0_2.length l0_2) (hc0_2 : l0_2.length ≤ c0_2) (hr0_3 : Kd.C k107 w A0_3 l0_3.length l0_3) (hc0_3 : l0_3.length ≤ c0_3) (hr1_2 : Kd.C k107 w A1_2 l1_2.length l1_2) (hc1_2 : l1_2.length ≤ c1_2) (hr1_3 : Kd.C k107 w A1_3 l1_3.length l1_3) (hc1_3 : l1_3.length ≤ c1_3) (h : laws_eqGrid.f k a0_0 a0_1 l0_2 l0_3 a1_0 a1_1 l1_2 l1_3 = some true) :
  Calls Try.prog 29 #[.agg #[.int .i64 a0_0, .int .i64 a0_1, .slice A0_2 l0_2.length c0_2, .slice A0_3 l0_3.length c0_3], .agg #[.int .i64 a1_0, .int .i64 a1_1, .slice A1_2 l1_2.length c1_2, .slice A1_3 l1_3.length c1_3]] w fun e w' => e = .returned (.bool true) ∧ Below w.heap.size w w' := by
 have hu47 := Try.underlying47
 have HR0_2 := Aside0.mk hr0_2
 have HC0_2 := Aside0.mk hc0_2
 clear hr0_2 hc0_2
 have HR0_3 := Aside0.mk hr0_3
 have HC0_3 := Aside0.mk hc0_3
 clear hr0_3 hc0_3
 have HR1_2 := Aside0.mk hr1_2
 have HC1_2 := Aside0.mk hc1_2
 clear hr1_2 hc1_2
 have HR1_3 := Aside0.mk hr1_3
 have HC1_3 := Aside0.mk hc1_3
 clear hr1_3 hc1_3
 have HB := Aside0.mk (Below.refl w.heap.size w)
 have H : (if a0_0 = a1_0 then (if a0_1 = a1_1 then ((laws_eqCellS.f k l0_2 l1_2).bind fun t243 => (if t243 = true then ((laws_eqCellS.f k l0_3 l1_3).bind fun t244 => (if t244 = true then (some true) else (some false))) else (some false))) else (some false)) else (some false)) = some true := h
 clear h
 by_cases c3 : a0_0 = a1_0
 ·rw [if_pos c3] at H
  have c3b0 : (a0_0 == a1_0) = true := beq_iff_eq.mpr c3
  have c3b1 : (a0_0 != a1_0) = false := bne_eq_false_iff_eq.mpr c3
  clear c3
  by_cases c4 : a0_1 = a1_1
  ·rw [if_pos c4] at H
   have c4b0 : (a0_1 == a1_1) = true := beq_iff_eq.mpr c4
   have c4b1 : (a0_1 != a1_1) = false := bne_eq_false_iff_eq.mpr c4
   clear c4
   replace H := Option.bind_eq_some_iff.mp H
   obtain ⟨t243, A50, H⟩ := H
   replace H : (if t243 = true then ((laws_eqCellS.f k l0_3 l1_3).bind fun t244 => (if t244 = true then (some true) else (some false))) else (some false)) = some true := H
   have A5 := Aside0.mk A50
   clear A50
   by_cases c6 : t243 = true
   ·subst c6
    have H1 : ((laws_eqCellS.f k l0_3 l1_3).bind fun t244 => (if t244 = true then (some true) else (some false))) = some true := by rw [if_pos rfl] at H; (first | done | exact H)
    clear H
    have H := H1
    clear H1
    replace H := Option.bind_eq_some_iff.mp H
    obtain ⟨t244, A70, H⟩ := H
    replace H : (if t244 = true then (some true) else (some false)) = some true := H
    have A7 := Aside0.mk A70
    clear A70
    by_cases c8 : t244 = true
    ·subst c8
     have H1 : (some true) = some true := by rw [if_pos rfl] at H; (first | done | exact H)
     clear H
     have H := H1
     clear H1
     go_enter Try.func29, Try.ntmps29
     go_wp2_with (first | ((with_reducible refine gate_dst (N := 2) rfl ?_); refine box_event ?hg (N := 2) ?hd (cs := #[.int .i64 a0_0, .int .i64 a0_1, .slice A0_2 l0_2.length c0_2, .slice A0_3 l0_3.length c0_3]) (t := 47) ?hr ?_; (case hd => rfl); (case hg => rfl); (case hr => first | (go_simp; done) | (go_simp; rfl)); intro gb241 hg w9 hbox hb; have n0_ := Aside0.mk (below_step (by repeat (first | (with_reducible first | exact HB.out | apply below_alloc | apply pw_below_drewN | apply below_drew1) | exact HB.out)) hb); have n1_ := Aside0.mk (hbox); have n2_ := Aside0.mk ((by rw [hg]; exact (below_size (by repeat (first | (with_reducible first | exact HB.out | apply below_alloc | apply pw_below_drewN | apply below_drew1) | exact HB.out))) : w.heap.size ≤ gb241)); have n3_ := Aside0.mk ((by rw [hg]; exact (below_size (by repeat (first | (with_reducible first | exact HB.out | apply below_alloc | apply pw_below_drewN | apply below_drew1) | exact HB.out))) : w.heap.size ≤ gb241)); clear HB; have HB := n0_; have BK241 := n1_; have GW241 := n2_; have GE241 := n3_; clear n0_ n1_ n2_ n3_; clear hb hbox hg) | ((with_reducible refine gate_dst (N := 3) rfl ?_); refine box_event ?hg (N := 3) ?hd (cs := #[.int .i64 a1_0, .int .i64 a1_1, .slice A1_2 l1_2.length c1_2, .slice A1_3 l1_3.length c1_3]) (t := 47) ?hr ?_; (case hd => rfl); (case hg => rfl); (case hr => first | (go_simp; done) | (go_simp; rfl)); intro gb242 hg w10 hbox hb; have n0_ := Aside0.mk (blkb hb BK241.out); have n1_ := Aside0.mk (below_step (by repeat (first | (with_reducible first | exact HB.out | apply below_alloc | apply pw_below_drewN | apply below_drew1 | refine below_set ?_ GE241.out) | exact HB.out)) hb); have n2_ := Aside0.mk (hbox); have n3_ := Aside0.mk ((by rw [hg]; exact (below_size (by repeat (first | (with_reducible first | exact HB.out | apply below_alloc | apply pw_below_drewN | apply below_drew1 | refine below_set ?_ GE241.out) | exact HB.out))) : w.heap.size ≤ gb242)); have n4_ := Aside0.mk ((by rw [hg]; exact (below_size (by repeat (first | (with_reducible first | exact HB.out | apply below_alloc | apply pw_below_drewN | apply below_drew1 | refine below_set ?_ GE241.out) | exact HB.out))) : w.heap.size ≤ gb242)); have n5_ := Aside0.mk ((blkn hg BK241.out)); have n6_ := Aside0.mk ((blkm hg BK241.out)); clear BK241; clear HB; have BK241 := n0_; have HB := n1_; have BK242 := n2_; have GW242 := n3_; have GE242 := n4_; have NB241_242 := n5_; have NB242_241 := n6_; clear n0_ n1_ n2_ n3_ n4_ n5_ n6_; clear hb hbox hg; have hnb11 := NB241_242.out; have hnc11 := NB242_241.out; have hcz12_0 : w10.cell? ⟨gb241, 0, none⟩ = some (.int .i64 a0_0) := (blk_cell BK241.out 0).trans rfl; have hcz12_1 : w10.cell? ⟨gb241, 1, none⟩ = some (.int .i64 a0_1) := (blk_cell BK241.out 1).trans rfl; have hcz12_2 : w10.cell? ⟨gb241, 2, none⟩ = some (.slice A0_2 l0_2.length c0_2) := (blk_cell BK241.out 2).trans rfl; have hcz12_3 : w10.cell? ⟨gb241, 3, none⟩ = some (.slice A0_3 l0_3.length c0_3) := (blk_cell BK241.out 3).trans rfl; have hfz12_0 := blk_frozen BK241.out 0; have hfz12_1 := blk_frozen BK241.out 1; have hfz12_2 := blk_frozen BK241.out 2; have hfz12_3 := blk_frozen BK241.out 3; have hcz13_0 : w10.cell? ⟨gb242, 0, none⟩ = some (.int .i64 a1_0) := (blk_cell BK242.out 0).trans rfl; have hcz13_1 : w10.cell? ⟨gb242, 1, none⟩ = some (.int .i64 a1_1) := (blk_cell BK242.out 1).trans rfl; have hcz13_2 : w10.cell? ⟨gb242, 2, none⟩ = some (.slice A1_2 l1_2.length c1_2) := (blk_cell BK242.out 2).trans rfl; have hcz13_3 : w10.cell? ⟨gb242, 3, none⟩ = some (.slice A1_3 l1_3.length c1_3) := (blk_cell BK242.out 3).trans rfl; have hfz13_0 := blk_frozen BK242.out 0; have hfz13_1 := blk_frozen BK242.out 1; have hfz13_2 := blk_frozen BK242.out 2; have hfz13_3 := blk_frozen BK242.out 3) | ((with_reducible refine gate_callee (f := 74) rfl ?_); refine goesL_ (some 19) rfl rfl Try.func74 (by kernel_rfl) rfl #[.slice A0_2 l0_2.length c0_2, .slice A1_2 l1_2.length c1_2] rfl (by (try simp only [List.map_toArray, List.map_cons, List.map_nil]); first | done | rfl | (simp only [List.length_drop, List.length_take]; rfl)) ?_; (with_reducible refine (laws_eqCellS.calls k _ _ l0_2 _ _ l1_2  _ ?side1 ?side2 ?side3 ?side4 A5.out).mono ?_); (case side1 => repeat (first | exact (Kd.C_below HR0_2.out HB.out) | (with_reducible refine Kd.C_alloc ?_ _) | (with_reducible refine Kd.C_drewN ?_ _) | (with_reducible refine Kd.C_drew ?_))); (case side2 => exact HC0_2.out); (case side3 => repeat (first | exact (Kd.C_below HR1_2.out HB.out) | (with_reducible refine Kd.C_alloc ?_ _) | (with_reducible refine Kd.C_drewN ?_ _) | (with_reducible refine Kd.C_drew ?_))); (case side4 => exact HC1_2.out); rintro e w14 ⟨rfl, hb⟩; refine ⟨_, rfl, ?_⟩; have n0_ := Aside0.mk (blkb hb BK241.out); have n1_ := Aside0.mk (blkb hb BK242.out); have n2_ := Aside0.mk (below_step (by repeat (first | (with_reducible first | exact HB.out | apply below_alloc | apply pw_below_drewN | apply below_drew1 | refine below_set ?_ GE241.out | refine below_set ?_ GE242.out) | exact HB.out)) hb); clear BK241; clear BK242; clear HB; have BK241 := n0_; have BK242 := n1_; have HB := n2_; clear n0_ n1_ n2_; (try clear hb); (try clear hb2); (try clear hk); (try clear hi); have hcz15_0 : w14.cell? ⟨gb241, 0, none⟩ = some (.int .i64 a0_0) := (blk_cell BK241.out 0).trans rfl; have hcz15_1 : w14.cell? ⟨gb241, 1, none⟩ = some (.int .i64 a0_1) := (blk_cell BK241.out 1).trans rfl; have hcz15_2 : w14.cell? ⟨gb241, 2, none⟩ = some (.slice A0_2 l0_2.length c0_2) := (blk_cell BK241.out 2).trans rfl; have hcz15_3 : w14.cell? ⟨gb241, 3, none⟩ = some (.slice A0_3 l0_3.length c0_3) := (blk_cell BK241.out 3).trans rfl; have hfz15_0 := blk_frozen BK241.out 0; have hfz15_1 := blk_frozen BK241.out 1; have hfz15_2 := blk_frozen BK241.out 2; have hfz15_3 := blk_frozen BK241.out 3; have hcz16_0 : w14.cell? ⟨gb242, 0, none⟩ = some (.int .i64 a1_0) := (blk_cell BK242.out 0).trans rfl; have hcz16_1 : w14.cell? ⟨gb242, 1, none⟩ = some (.int .i64 a1_1) := (blk_cell BK242.out 1).trans rfl; have hcz16_2 : w14.cell? ⟨gb242, 2, none⟩ = some (.slice A1_2 l1_2.length c1_2) := (blk_cell BK242.out 2).trans rfl; have hcz16_3 : w14.cell? ⟨gb242, 3, none⟩ = some (.slice A1_3 l1_3.length c1_3) := (blk_cell BK242.out 3).trans rfl; have hfz16_0 := blk_frozen BK242.out 0; have hfz16_1 := blk_frozen BK242.out 1; have hfz16_2 := blk_frozen BK242.out 2; have hfz16_3 := blk_frozen BK242.out 3) | ((with_reducible refine gate_callee (f := 74) rfl ?_); refine goesL_ (some 25) rfl rfl Try.func74 (by kernel_rfl) rfl #[.slice A0_3 l0_3.length c0_3, .slice A1_3 l1_3.length c1_3] rfl (by (try simp only [List.map_toArray, List.map_cons, List.map_nil]); first | done | rfl | (simp only [List.length_drop, List.length_take]; rfl)) ?_; (with_reducible refine (laws_eqCellS.calls k _ _ l0_3 _ _ l1_3  _ ?side1 ?side2 ?side3 ?side4 A7.out).mono ?_); (case side1 => repeat (first | exact (Kd.C_below HR0_3.out HB.out) | (with_reducible refine Kd.C_alloc ?_ _) | (with_reducible refine Kd.C_drewN ?_ _) | (with_reducible refine Kd.C_drew ?_))); (case side2 => exact HC0_3.out); (case side3 => repeat (first | exact (Kd.C_below HR1_3.out HB.out) | (with_reducible refine Kd.C_alloc ?_ _) | (with_reducible refine Kd.C_drewN ?_ _) | (with_reducible refine Kd.C_drew ?_))); (case side4 => exact HC1_3.out); rintro e w17 ⟨rfl, hb⟩; refine ⟨_, rfl, ?_⟩; have n0_ := Aside0.mk (blkb hb BK241.out); have n1_ := Aside0.mk (blkb hb BK242.out); have n2_ := Aside0.mk (below_step (by repeat (first | (with_reducible first | exact HB.out | apply below_alloc | apply pw_below_drewN | apply below_drew1 | refine below_set ?_ GE241.out | refine below_set ?_ GE242.out) | exact HB.out)) hb); clear BK241; clear BK242; clear HB; have BK241 := n0_; have BK242 := n1_; have HB := n2_; clear n0_ n1_ n2_; (try clear hb); (try clear hb2); (try clear hk); (try clear hi)))
     go_ret
     exact ⟨by first | rfl | (simp [errW_none, errW_some] <;> rfl) | (simp [*, errW_none, errW_some] <;> rfl), by repeat (first | (with_reducible first | exact HB.out | apply below_alloc | apply pw_below_drewN | apply below_drew1 | refine below_set ?_ GE241.out | refine below_set ?_ GE242.out) | exact HB.out)⟩
    ·replace c8 := Bool.eq_false_iff.mpr c8
     subst c8
     have H1 : (some false) = some true := by rw [if_neg (show ¬ (false = true) by decide)] at H; (first | done | exact H)
     clear H
     have H := H1
     clear H1
     exact absurd H (by simp)
   ·replace c6 := Bool.eq_false_iff.mpr c6
    subst c6
    have H1 : (some false) = some true := by rw [if_neg (show ¬ (false = true) by decide)] at H; (first | done | exact H)
    clear H
    have H := H1
    clear H1
    exact absurd H (by simp)
  ·rw [if_neg c4] at H
   have c4b0 : (a0_1 == a1_1) = false := beq_eq_false_iff_ne.mpr c4
   have c4b1 : (a0_1 != a1_1) = true := bne_iff_ne.mpr c4
   exact absurd H (by simp)
 ·rw [if_neg c3] at H
  have c3b0 : (a0_0 == a1_0) = false := beq_eq_false_iff_ne.mpr c3
  have c3b1 : (a0_0 != a1_0) = true := bne_iff_ne.mpr c3
  exact absurd H (by simp)

/-! ### laws_eqBoolS: function 89 -/
def laws_eqBoolS.l0 : Nat → List Bool → List Bool → Int → Option (Bool)
 | 0, _, _, _ => none
 | k + 1, x0, x1, x5 => if x5 < (x0.length : Int) then (if 0 ≤ x5 then (if x5 < (x1.length : Int) then (if ((rdOf false x0 x5) != (rdOf false x1 x5)) = true then (some false) else (laws_eqBoolS.l0 k x0 x1 (wrap64 (x5 + 1)))) else (none)) else (none)) else (some true)
def laws_eqBoolS.f (k : Nat) (l0 : List Bool) (l1 : List Bool) : Option (Bool) := if (l0.length : Int) = (l1.length : Int) then (laws_eqBoolS.l0 k l0 l1 0) else (some false)
theorem laws_eqBoolS.mono_l : ∀ k, (∀ y0 y1 y2, LeO (laws_eqBoolS.l0 k y0 y1 y2) (laws_eqBoolS.l0 (k + 1) y0 y1 y2))
 | 0 => fun _ _ _ r h => by simp [laws_eqBoolS.l0] at h
 | k + 1 => by
  have ih0 := laws_eqBoolS.mono_l k
  ·intro y0 y1 y2
   unfold laws_eqBoolS.l0
   repeat' first
   | (with_reducible exact ih0 _ _ _)
   | (with_reducible exact LeO.refl _)
   | (with_reducible exact LeO.none _)
   | (with_reducible refine LeO.ite ?_ ?_)
   | (with_reducible refine LeO.bind ?_ (fun _ => ?_))
   | exact ih0 _ _ _
   | exact LeO.none _
   | refine LeO.ite ?_ ?_
   | refine LeO.bind ?_ (fun _ => ?_)
theorem laws_eqBoolS.mono : ∀ a0 a1 k, LeO (laws_eqBoolS.f k a0 a1) (laws_eqBoolS.f (k + 1) a0 a1) := by
 intro a0 a1 k
 have ih0 := laws_eqBoolS.mono_l k
 unfold laws_eqBoolS.f
 repeat' first
   | (with_reducible exact ih0 _ _ _)
   | (with_reducible exact LeO.refl _)
   | (with_reducible exact LeO.none _)
   | (with_reducible refine LeO.ite ?_ ?_)
   | (with_reducible refine LeO.bind ?_ (fun _ => ?_))
   | exact ih0 _ _ _
   | exact LeO.none _
   | refine LeO.ite ?_ ?_
   | refine LeO.bind ?_ (fun _ => ?_)
set_option maxHeartbeats 8000000 in
set_option maxRecDepth 100000 in
theorem laws_eqBoolS.calls (k : Nat) (A0 : Option Addr) (c0 : Nat) (l0 : List Bool) (A1 : Option Addr) (c1 : Nat) (l1 : List Bool) (w : World) (hr0 : Kd.C Kd.bool w A0 l0.length l0) (hc0 : l0.length ≤ c0) (hr1 : Kd.C Kd.bool w A1 l1.length l1) (hc1 : l1.length ≤ c1) (h : laws_eqBoolS.f k l0 l1 = some true) :
  Calls Try.prog 89 #[.slice A0 l0.length c0, .slice A1 l1.length c1] w fun e w' => e = .returned (.bool true) ∧ Drawn0 w w' := by
 have HR0 := Aside0.mk hr0
 have HC0 := Aside0.mk hc0
 clear hr0 hc0
 have HR1 := Aside0.mk hr1
 have HC1 := Aside0.mk hc1
 clear hr1 hc1
 have H : (if (l0.length : Int) = (l1.length : Int) then (laws_eqBoolS.l0 k l0 l1 0) else (some false)) = some true := h
 clear h
 by_cases c3 : (l0.length : Int) = (l1.length : Int)
 ·rw [if_pos c3] at H
  have c3b0 : ((l0.length : Int) == (l1.length : Int)) = true := beq_iff_eq.mpr c3
  have c3b1 : ((l0.length : Int) != (l1.length : Int)) = false := bne_eq_false_iff_eq.mpr c3
  have c3b2 : (l0.length == l1.length) = true := by first | simpa using c3 | (simp at c3 ⊢; omega)
  clear c3
  have H' := Aside0.mk H
  clear H
  go_enter Try.func89, Try.ntmps89
  go_wp2
  repeat (go_quiet (fail); try go_wp2)
  go_loopg [5] k (fun kq v5 w' => ∃ (x5_1 : Int), v5 = .int .i64 x5_1 ∧ Aside0 (laws_eqBoolS.l0 kq l0 l1 x5_1 = some true) ∧ Aside0 (kq ≤ k) ∧ Drawn0 w w')
  case atStart => exact ⟨(0), (by first | rfl | (simp; done) | (simp [*]; done)), H', ⟨Nat.le_refl _⟩, by repeat (first | exact Drawn0.refl _ | apply Drawn0.step)⟩
  case round =>
   clear H'
   try clear c1
   try clear p2
   try clear c3
   try clear c3b0
   try clear c3b1
   try clear c3b2
   obtain ⟨x5_1, rfl, HA, HK1, ⟨m1, rfl⟩⟩ := hrel
   cases gk with
   | zero => exact absurd HA.out (by simp [laws_eqBoolS.l0])
   | succ k1 =>
    have H := HA.out
    clear HA
    simp only [laws_eqBoolS.l0] at H
    by_cases c4 : x5_1 < (l0.length : Int)
    ·rw [if_pos c4] at H
     have c4b0 : decide (x5_1 < (l0.length : Int)) = true := decide_eq_true c4
     clear c4
     by_cases c5 : 0 ≤ x5_1
     ·rw [if_pos c5] at H
      have c5b0 : decide (0 ≤ x5_1) = true := decide_eq_true c5
      clear c5
      by_cases c6 : x5_1 < (l1.length : Int)
      ·rw [if_pos c6] at H
       have c6b0 : decide (x5_1 < (l1.length : Int)) = true := decide_eq_true c6
       clear c6
       by_cases c7 : ((rdOf false l0 x5_1) != (rdOf false l1 x5_1)) = true
       ·rw [if_pos c7] at H
        have c7b0 : ((rdOf false l0 x5_1) != (rdOf false l1 x5_1)) = true := c7
        (try (have c7b1 : decide ((rdOf false l0 x5_1) = (rdOf false l1 x5_1)) = false := by simpa using c7))
        (try (have c7b2 : ((rdOf false l0 x5_1) == (rdOf false l1 x5_1)) = false := by simpa using c7))
        (try (have c7b3 : ¬ ((rdOf false l0 x5_1) = (rdOf false l1 x5_1)) := by simpa using c7))
        clear c7
        exact absurd H (by simp)
       ·rw [if_neg c7] at H
        have c7b0 : ((rdOf false l0 x5_1) != (rdOf false l1 x5_1)) = false := by simpa using c7
        (try (have c7b1 : decide ((rdOf false l0 x5_1) = (rdOf false l1 x5_1)) = true := by simpa using c7))
        (try (have c7b2 : ((rdOf false l0 x5_1) == (rdOf false l1 x5_1)) = true := by simpa using c7))
        clear c7
        have H' := Aside0.mk H
        clear H
        have p245 : 0 ≤ (x5_1 : Int) := of_decide_eq_true (by first | (with_reducible assumption) | assumption)
        have q245 : x5_1 < (l0.length : Int) := of_decide_eq_true (by first | (with_reducible assumption) | assumption)
        obtain ⟨ad245, e245, hx245_0⟩ := Kd.at_bool HR0.out x5_1 p245 q245
        cases e245
        replace p245 := eq_true p245
        replace q245 := eq_true q245
        have p246 : 0 ≤ (x5_1 : Int) := of_decide_eq_true (by first | (with_reducible assumption) | assumption)
        have q246 : x5_1 < (l1.length : Int) := of_decide_eq_true (by first | (with_reducible assumption) | assumption)
        obtain ⟨ad246, e246, hx246_0⟩ := Kd.at_bool HR1.out x5_1 p246 q246
        cases e246
        replace p246 := eq_true p246
        replace q246 := eq_true q246
        go_wp2
        repeat (go_quiet (fail); try go_wp2)
        go_roundg k1
        case measure => have := HK1.out; omega
        case rel => exact ⟨(wrap64 (x5_1 + 1)), (by first | rfl | (simp; done) | (simp [*]; done)), H', ⟨by have := HK1.out; omega⟩, by repeat (first | exact Drawn0.refl _ | apply Drawn0.step)⟩
      ·rw [if_neg c6] at H
       exact absurd H (by simp)
     ·rw [if_neg c5] at H
      exact absurd H (by simp)
    ·rw [if_neg c4] at H
     have c4b0 : decide (x5_1 < (l0.length : Int)) = false := decide_eq_false c4
     clear c4
     go_wp2
     repeat (go_quiet (fail); try go_wp2)
     go_ret
     exact ⟨by first | rfl | (simp; done) | (simp [*]; done), by repeat (first | exact Drawn0.refl _ | apply Drawn0.step)⟩
 ·rw [if_neg c3] at H
  have c3b0 : ((l0.length : Int) == (l1.length : Int)) = false := beq_eq_false_iff_ne.mpr c3
  have c3b1 : ((l0.length : Int) != (l1.length : Int)) = true := bne_iff_ne.mpr c3
  have c3b2 : (l0.length == l1.length) = false := by first | simpa using c3 | (simp at c3 ⊢; omega)
  exact absurd H (by simp)

/-! ### laws_eqScreen: function 41 -/
def laws_eqScreen.f (k : Nat) (a0_0 : Int) (a0_1 : Int) (l0_2 : List (S107)) (l0_3 : List (S107)) (a0_4 : Int) (a0_5 : Int) (a0_6 : Bool) (a0_7 : Int) (a0_8 : Int) (a0_9 : Int) (a0_10 : Bool) (a0_11 : Bool) (a0_12 : Bool) (l0_13 : List Bool) (a0_14 : Int) (a0_15 : Int) (a0_16 : Int) (l0_17 : List Int) (a0_18 : Int) (a0_19 : Int) (a1_0 : Int) (a1_1 : Int) (l1_2 : List (S107)) (l1_3 : List (S107)) (a1_4 : Int) (a1_5 : Int) (a1_6 : Bool) (a1_7 : Int) (a1_8 : Int) (a1_9 : Int) (a1_10 : Bool) (a1_11 : Bool) (a1_12 : Bool) (l1_13 : List Bool) (a1_14 : Int) (a1_15 : Int) (a1_16 : Int) (l1_17 : List Int) (a1_18 : Int) (a1_19 : Int) : Option (Bool) := (laws_eqGrid.f k a0_0 a0_1 l0_2 l0_3 a1_0 a1_1 l1_2 l1_3).bind fun t249 => (if t249 = true then (if a0_4 = a1_4 then (if a0_5 = a1_5 then (if (a0_6 != a1_6) = true then (some false) else (if a0_7 = a1_7 then (if a0_8 = a1_8 then (if a0_9 = a1_9 then (if (a0_10 != a1_10) = true then (some false) else (if (a0_11 != a1_11) = true then (some false) else (if (a0_12 != a1_12) = true then (some false) else ((laws_eqBoolS.f k l0_13 l1_13).bind fun t250 => (if t250 = true then (if a0_14 = a1_14 then (if a0_15 = a1_15 then (if a0_16 = a1_16 then ((laws_eqInt64S.f k l0_17 l1_17).bind fun t251 => (if t251 = true then (if a0_18 = a1_18 then (if a0_19 = a1_19 then (some true) else (some false)) else (some false)) else (some false))) else (some false)) else (some false)) else (some false)) else (some false)))))) else (some false)) else (some false)) else (some false))) else (some false)) else (some false)) else (some false))
theorem laws_eqScreen.mono : ∀ a0 a1 a2 a3 a4 a5 a6 a7 a8 a9 a10 a11 a12 a13 a14 a15 a16 a17 a18 a19 a20 a21 a22 a23 a24 a25 a26 a27 a28 a29 a30 a31 a32 a33 a34 a35 a36 a37 a38 a39 k, LeO (laws_eqScreen.f k a0 a1 a2 a3 a4 a5 a6 a7 a8 a9 a10 a11 a12 a13 a14 a15 a16 a17 a18 a19 a20 a21 a22 a23 a24 a25 a26 a27 a28 a29 a30 a31 a32 a33 a34 a35 a36 a37 a38 a39) (laws_eqScreen.f (k + 1) a0 a1 a2 a3 a4 a5 a6 a7 a8 a9 a10 a11 a12 a13 a14 a15 a16 a17 a18 a19 a20 a21 a22 a23 a24 a25 a26 a27 a28 a29 a30 a31 a32 a33 a34 a35 a36 a37 a38 a39) := by
 intro a0 a1 a2 a3 a4 a5 a6 a7 a8 a9 a10 a11 a12 a13 a14 a15 a16 a17 a18 a19 a20 a21 a22 a23 a24 a25 a26 a27 a28 a29 a30 a31 a32 a33 a34 a35 a36 a37 a38 a39 k
 unfold laws_eqScreen.f
 repeat' first
   | (with_reducible exact laws_eqBoolS.mono _ _ _)
   | (with_reducible exact laws_eqGrid.mono _ _ _ _ _ _ _ _ _)
   | (with_reducible exact laws_eqInt64S.mono _ _ _)
   | (with_reducible exact LeO.refl _)
   | (with_reducible exact LeO.none _)
   | (with_reducible refine LeO.ite ?_ ?_)
   | (with_reducible refine LeO.bind ?_ (fun _ => ?_))
   | exact laws_eqBoolS.mono _ _ _
   | exact laws_eqGrid.mono _ _ _ _ _ _ _ _ _
   | exact laws_eqInt64S.mono _ _ _
   | exact LeO.none _
   | refine LeO.ite ?_ ?_
   | refine LeO.bind ?_ (fun _ => ?_)
set_option maxHeartbeats 8000000 in
set_option maxRecDepth 100000 in
theorem laws_eqScreen.calls (k : Nat) (a0_0 : Int) (a0_1 : Int) (A0_2 : Option Addr) (c0_2 : Nat) (l0_2 : List (S107)) (A0_3 : Option Addr) (c0_3 : Nat) (l0_3 : List (S107)) (a0_4 : Int) (a0_5 : Int) (a0_6 : Bool) (a0_7 : Int) (a0_8 : Int) (a0_9 : Int) (a0_10 : Bool) (a0_11 : Bool) (a0_12 : Bool) (A0_13 : Option Addr) (c0_13 : Nat) (l0_13 : List Bool) (a0_14 : Int) (a0_15 : Int) (a0_16 : Int) (A0_17 : Option Addr) (c0_17 : Nat) (l0_17 : List Int) (a0_18 : Int) (a0_19 : Int) (a1_0 : Int) (a1_1 : Int) (A1_2 : Option Addr) (c1_2 : Nat) (l1_2 : List (S107)) (A1_3 : Option Addr) (c1_3 : Nat) (l1_3 : List (S107)) (a1_4 : Int) (a1_5 : Int) (a1_6 : Bool) (a1_7 : Int) (a1_8 : Int) (a1_9 : Int) (a1_10 : Bool) (a1_11 : Bool) (a1_12 : Bool) (A1_13 : Option Addr) (c1_13 : Nat) (l1_13 : List Bool) (a1_14 : Int) (a1_15 : Int) (a1_16 : Int) (A1_17 : Option Addr) (c1_17 : Nat) (l1_17 : List Int) (a1_18 : Int) (a1_19 : Int) (w : World) (hr0_2 : Kd.C k107 w A0_2 l0_2.length l0_2) (hc0_2 : l0_2.length ≤ c0_2) (hr0_3 : Kd.C k107 w A0_3 l0_3.length l0_3) (hc0_3 : l0_3.length ≤ c0_3) (hr0_13 : Kd.C Kd.bool w A0_13 l0_13.length l0_13) (hc0_13 : l0_13.length ≤ c0_13) (hr0_17 : Kd.C (Kd.int .i64) w A0_17 l0_17.length l0_17) (hc0_17 : l0_17.length ≤ c0_17) (hr1_2 : Kd.C k107 w A1_2 l1_2.length l1_2) (hc1_2 : l1_2.length ≤ c1_2) (hr1_3 : Kd.C k107 w A1_3 l1_3.length l1_3) (hc1_3 : l1_3.length ≤ c1_3) (hr1_13 : Kd.C Kd.bool w A1_13 l1_13.length l1_13) (hc1_13 : l1_13.length ≤ c1_13) (hr1_17 : Kd.C (Kd.int .i64) w A1_17 l1_17.length l1_17) (hc1_17 : l1_17.length ≤ c1_17) (h : laws_eqScreen.f k a0_0 a0_1 l0_2 l0_3 a0_4 a0_5 a0_6 a0_7 a0_8 a0_9 a0_10 a0_11 a0_12 l0_13 a0_14 a0_15 a0_16 l0_17 a0_18 a0_19 a1_0 a1_1 l1_2 l1_3 a1_4 a1_5 a1_6 a1_7 a1_8 a1_9 a1_10 a1_11 a1_12 l1_13 a1_14 a1_15 a1_16 l1_17 a1_18 a1_19 = some true) :
  Calls Try.prog 41 #[.agg #[.int .i64 a0_0, .int .i64 a0_1, .slice A0_2 l0_2.length c0_2, .slice A0_3 l0_3.length c0_3, .int .i64 a0_4, .int .i64 a0_5, .bool a0_6, .int .i64 a0_7, .int .i64 a0_8, .int .i64 a0_9, .bool a0_10, .bool a0_11, .bool a0_12, .slice A0_13 l0_13.length c0_13, .int .i64 a0_14, .int .i64 a0_15, .int .i64 a0_16, .slice A0_17 l0_17.length c0_17, .int .i64 a0_18, .int .i64 a0_19], .agg #[.int .i64 a1_0, .int .i64 a1_1, .slice A1_2 l1_2.length c1_2, .slice A1_3 l1_3.length c1_3, .int .i64 a1_4, .int .i64 a1_5, .bool a1_6, .int .i64 a1_7, .int .i64 a1_8, .int .i64 a1_9, .bool a1_10, .bool a1_11, .bool a1_12, .slice A1_13 l1_13.length c1_13, .int .i64 a1_14, .int .i64 a1_15, .int .i64 a1_16, .slice A1_17 l1_17.length c1_17, .int .i64 a1_18, .int .i64 a1_19]] w fun e w' => e = .returned (.bool true) ∧ Below w.heap.size w w' := by
 have hu64 := Try.underlying64
 have hu47 := Try.underlying47
 have HR0_2 := Aside0.mk hr0_2
 have HC0_2 := Aside0.mk hc0_2
 clear hr0_2 hc0_2
 have HR0_3 := Aside0.mk hr0_3
 have HC0_3 := Aside0.mk hc0_3
 clear hr0_3 hc0_3
 have HR0_13 := Aside0.mk hr0_13
 have HC0_13 := Aside0.mk hc0_13
 clear hr0_13 hc0_13
 have HR0_17 := Aside0.mk hr0_17
 have HC0_17 := Aside0.mk hc0_17
 clear hr0_17 hc0_17
 have HR1_2 := Aside0.mk hr1_2
 have HC1_2 := Aside0.mk hc1_2
 clear hr1_2 hc1_2
 have HR1_3 := Aside0.mk hr1_3
 have HC1_3 := Aside0.mk hc1_3
 clear hr1_3 hc1_3
 have HR1_13 := Aside0.mk hr1_13
 have HC1_13 := Aside0.mk hc1_13
 clear hr1_13 hc1_13
 have HR1_17 := Aside0.mk hr1_17
 have HC1_17 := Aside0.mk hc1_17
 clear hr1_17 hc1_17
 have HB := Aside0.mk (Below.refl w.heap.size w)
 have H : ((laws_eqGrid.f k a0_0 a0_1 l0_2 l0_3 a1_0 a1_1 l1_2 l1_3).bind fun t249 => (if t249 = true then (if a0_4 = a1_4 then (if a0_5 = a1_5 then (if (a0_6 != a1_6) = true then (some false) else (if a0_7 = a1_7 then (if a0_8 = a1_8 then (if a0_9 = a1_9 then (if (a0_10 != a1_10) = true then (some false) else (if (a0_11 != a1_11) = true then (some false) else (if (a0_12 != a1_12) = true then (some false) else ((laws_eqBoolS.f k l0_13 l1_13).bind fun t250 => (if t250 = true then (if a0_14 = a1_14 then (if a0_15 = a1_15 then (if a0_16 = a1_16 then ((laws_eqInt64S.f k l0_17 l1_17).bind fun t251 => (if t251 = true then (if a0_18 = a1_18 then (if a0_19 = a1_19 then (some true) else (some false)) else (some false)) else (some false))) else (some false)) else (some false)) else (some false)) else (some false)))))) else (some false)) else (some false)) else (some false))) else (some false)) else (some false)) else (some false))) = some true := h
 clear h
 replace H := Option.bind_eq_some_iff.mp H
 obtain ⟨t249, A30, H⟩ := H
 replace H : (if t249 = true then (if a0_4 = a1_4 then (if a0_5 = a1_5 then (if (a0_6 != a1_6) = true then (some false) else (if a0_7 = a1_7 then (if a0_8 = a1_8 then (if a0_9 = a1_9 then (if (a0_10 != a1_10) = true then (some false) else (if (a0_11 != a1_11) = true then (some false) else (if (a0_12 != a1_12) = true then (some false) else ((laws_eqBoolS.f k l0_13 l1_13).bind fun t250 => (if t250 = true then (if a0_14 = a1_14 then (if a0_15 = a1_15 then (if a0_16 = a1_16 then ((laws_eqInt64S.f k l0_17 l1_17).bind fun t251 => (if t251 = true then (if a0_18 = a1_18 then (if a0_19 = a1_19 then (some true) else (some false)) else (some false)) else (some false))) else (some false)) else (some false)) else (some false)) else (some false)))))) else (some false)) else (some false)) else (some false))) else (some false)) else (some false)) else (some false)) = some true := H
 have A3 := Aside0.mk A30
 clear A30
 by_cases c4 : t249 = true
 ·subst c4
  have H1 : (if a0_4 = a1_4 then (if a0_5 = a1_5 then (if (a0_6 != a1_6) = true then (some false) else (if a0_7 = a1_7 then (if a0_8 = a1_8 then (if a0_9 = a1_9 then (if (a0_10 != a1_10) = true then (some false) else (if (a0_11 != a1_11) = true then (some false) else (if (a0_12 != a1_12) = true then (some false) else ((laws_eqBoolS.f k l0_13 l1_13).bind fun t250 => (if t250 = true then (if a0_14 = a1_14 then (if a0_15 = a1_15 then (if a0_16 = a1_16 then ((laws_eqInt64S.f k l0_17 l1_17).bind fun t251 => (if t251 = true then (if a0_18 = a1_18 then (if a0_19 = a1_19 then (some true) else (some false)) else (some false)) else (some false))) else (some false)) else (some false)) else (some false)) else (some false)))))) else (some false)) else (some false)) else (some false))) else (some false)) else (some false)) = some true := by rw [if_pos rfl] at H; (first | done | exact H)
  clear H
  have H := H1
  clear H1
  by_cases c5 : a0_4 = a1_4
  ·rw [if_pos c5] at H
   have c5b0 : (a0_4 == a1_4) = true := beq_iff_eq.mpr c5
   have c5b1 : (a0_4 != a1_4) = false := bne_eq_false_iff_eq.mpr c5
   clear c5
   by_cases c6 : a0_5 = a1_5
   ·rw [if_pos c6] at H
    have c6b0 : (a0_5 == a1_5) = true := beq_iff_eq.mpr c6
    have c6b1 : (a0_5 != a1_5) = false := bne_eq_false_iff_eq.mpr c6
    clear c6
    by_cases c7 : (a0_6 != a1_6) = true
    ·rw [if_pos c7] at H
     have c7b0 : (a0_6 != a1_6) = true := c7
     (try (have c7b1 : decide (a0_6 = a1_6) = false := by simpa using c7))
     (try (have c7b2 : (a0_6 == a1_6) = false := by simpa using c7))
     (try (have c7b3 : ¬ (a0_6 = a1_6) := by simpa using c7))
     clear c7
     exact absurd H (by simp)
    ·rw [if_neg c7] at H
     have c7b0 : (a0_6 != a1_6) = false := by simpa using c7
     (try (have c7b1 : decide (a0_6 = a1_6) = true := by simpa using c7))
     (try (have c7b2 : (a0_6 == a1_6) = true := by simpa using c7))
     clear c7
     by_cases c8 : a0_7 = a1_7
     ·rw [if_pos c8] at H
      have c8b0 : (a0_7 == a1_7) = true := beq_iff_eq.mpr c8
      have c8b1 : (a0_7 != a1_7) = false := bne_eq_false_iff_eq.mpr c8
      clear c8
      by_cases c9 : a0_8 = a1_8
      ·rw [if_pos c9] at H
       have c9b0 : (a0_8 == a1_8) = true := beq_iff_eq.mpr c9
       have c9b1 : (a0_8 != a1_8) = false := bne_eq_false_iff_eq.mpr c9
       clear c9
       by_cases c10 : a0_9 = a1_9
       ·rw [if_pos c10] at H
        have c10b0 : (a0_9 == a1_9) = true := beq_iff_eq.mpr c10
        have c10b1 : (a0_9 != a1_9) = false := bne_eq_false_iff_eq.mpr c10
        clear c10
        by_cases c11 : (a0_10 != a1_10) = true
        ·rw [if_pos c11] at H
         have c11b0 : (a0_10 != a1_10) = true := c11
         (try (have c11b1 : decide (a0_10 = a1_10) = false := by simpa using c11))
         (try (have c11b2 : (a0_10 == a1_10) = false := by simpa using c11))
         (try (have c11b3 : ¬ (a0_10 = a1_10) := by simpa using c11))
         clear c11
         exact absurd H (by simp)
        ·rw [if_neg c11] at H
         have c11b0 : (a0_10 != a1_10) = false := by simpa using c11
         (try (have c11b1 : decide (a0_10 = a1_10) = true := by simpa using c11))
         (try (have c11b2 : (a0_10 == a1_10) = true := by simpa using c11))
         clear c11
         by_cases c12 : (a0_11 != a1_11) = true
         ·rw [if_pos c12] at H
          have c12b0 : (a0_11 != a1_11) = true := c12
          (try (have c12b1 : decide (a0_11 = a1_11) = false := by simpa using c12))
          (try (have c12b2 : (a0_11 == a1_11) = false := by simpa using c12))
          (try (have c12b3 : ¬ (a0_11 = a1_11) := by simpa using c12))
          clear c12
          exact absurd H (by simp)
         ·rw [if_neg c12] at H
          have c12b0 : (a0_11 != a1_11) = false := by simpa using c12
          (try (have c12b1 : decide (a0_11 = a1_11) = true := by simpa using c12))
          (try (have c12b2 : (a0_11 == a1_11) = true := by simpa using c12))
          clear c12
          by_cases c13 : (a0_12 != a1_12) = true
          ·rw [if_pos c13] at H
           have c13b0 : (a0_12 != a1_12) = true := c13
           (try (have c13b1 : decide (a0_12 = a1_12) = false := by simpa using c13))
           (try (have c13b2 : (a0_12 == a1_12) = false := by simpa using c13))
           (try (have c13b3 : ¬ (a0_12 = a1_12) := by simpa using c13))
           clear c13
           exact absurd H (by simp)
          ·rw [if_neg c13] at H
           have c13b0 : (a0_12 != a1_12) = false := by simpa using c13
           (try (have c13b1 : decide (a0_12 = a1_12) = true := by simpa using c13))
           (try (have c13b2 : (a0_12 == a1_12) = true := by simpa using c13))
           clear c13
           replace H := Option.bind_eq_some_iff.mp H
           obtain ⟨t250, A140, H⟩ := H
           replace H : (if t250 = true then (if a0_14 = a1_14 then (if a0_15 = a1_15 then (if a0_16 = a1_16 then ((laws_eqInt64S.f k l0_17 l1_17).bind fun t251 => (if t251 = true then (if a0_18 = a1_18 then (if a0_19 = a1_19 then (some true) else (some false)) else (some false)) else (some false))) else (some false)) else (some false)) else (some false)) else (some false)) = some true := H
           have A14 := Aside0.mk A140
           clear A140
           by_cases c15 : t250 = true
           ·subst c15
            have H1 : (if a0_14 = a1_14 then (if a0_15 = a1_15 then (if a0_16 = a1_16 then ((laws_eqInt64S.f k l0_17 l1_17).bind fun t251 => (if t251 = true then (if a0_18 = a1_18 then (if a0_19 = a1_19 then (some true) else (some false)) else (some false)) else (some false))) else (some false)) else (some false)) else (some false)) = some true := by rw [if_pos rfl] at H; (first | done | exact H)
            clear H
            have H := H1
            clear H1
            by_cases c16 : a0_14 = a1_14
            ·rw [if_pos c16] at H
             have c16b0 : (a0_14 == a1_14) = true := beq_iff_eq.mpr c16
             have c16b1 : (a0_14 != a1_14) = false := bne_eq_false_iff_eq.mpr c16
             clear c16
             by_cases c17 : a0_15 = a1_15
             ·rw [if_pos c17] at H
              have c17b0 : (a0_15 == a1_15) = true := beq_iff_eq.mpr c17
              have c17b1 : (a0_15 != a1_15) = false := bne_eq_false_iff_eq.mpr c17
              clear c17
              by_cases c18 : a0_16 = a1_16
              ·rw [if_pos c18] at H
               have c18b0 : (a0_16 == a1_16) = true := beq_iff_eq.mpr c18
               have c18b1 : (a0_16 != a1_16) = false := bne_eq_false_iff_eq.mpr c18
               clear c18
               replace H := Option.bind_eq_some_iff.mp H
               obtain ⟨t251, A190, H⟩ := H
               replace H : (if t251 = true then (if a0_18 = a1_18 then (if a0_19 = a1_19 then (some true) else (some false)) else (some false)) else (some false)) = some true := H
               have A19 := Aside0.mk A190
               clear A190
               by_cases c20 : t251 = true
               ·subst c20
                have H1 : (if a0_18 = a1_18 then (if a0_19 = a1_19 then (some true) else (some false)) else (some false)) = some true := by rw [if_pos rfl] at H; (first | done | exact H)
                clear H
                have H := H1
                clear H1
                by_cases c21 : a0_18 = a1_18
                ·rw [if_pos c21] at H
                 have c21b0 : (a0_18 == a1_18) = true := beq_iff_eq.mpr c21
                 have c21b1 : (a0_18 != a1_18) = false := bne_eq_false_iff_eq.mpr c21
                 clear c21
                 by_cases c22 : a0_19 = a1_19
                 ·rw [if_pos c22] at H
                  have c22b0 : (a0_19 == a1_19) = true := beq_iff_eq.mpr c22
                  have c22b1 : (a0_19 != a1_19) = false := bne_eq_false_iff_eq.mpr c22
                  clear c22
                  go_enter Try.func41, Try.ntmps41
                  go_wp2_with (first | ((with_reducible refine gate_dst (N := 2) rfl ?_); refine box_event ?hg (N := 2) ?hd (cs := #[.int .i64 a0_0, .int .i64 a0_1, .slice A0_2 l0_2.length c0_2, .slice A0_3 l0_3.length c0_3, .int .i64 a0_4, .int .i64 a0_5, .bool a0_6, .int .i64 a0_7, .int .i64 a0_8, .int .i64 a0_9, .bool a0_10, .bool a0_11, .bool a0_12, .slice A0_13 l0_13.length c0_13, .int .i64 a0_14, .int .i64 a0_15, .int .i64 a0_16, .slice A0_17 l0_17.length c0_17, .int .i64 a0_18, .int .i64 a0_19]) (t := 64) ?hr ?_; (case hd => rfl); (case hg => rfl); (case hr => first | (go_simp; done) | (go_simp; rfl)); intro gb247 hg w23 hbox hb; have n0_ := Aside0.mk (below_step (by repeat (first | (with_reducible first | exact HB.out | apply below_alloc | apply pw_below_drewN | apply below_drew1) | exact HB.out)) hb); have n1_ := Aside0.mk (hbox); have n2_ := Aside0.mk ((by rw [hg]; exact (below_size (by repeat (first | (with_reducible first | exact HB.out | apply below_alloc | apply pw_below_drewN | apply below_drew1) | exact HB.out))) : w.heap.size ≤ gb247)); have n3_ := Aside0.mk ((by rw [hg]; exact (below_size (by repeat (first | (with_reducible first | exact HB.out | apply below_alloc | apply pw_below_drewN | apply below_drew1) | exact HB.out))) : w.heap.size ≤ gb247)); clear HB; have HB := n0_; have BK247 := n1_; have GW247 := n2_; have GE247 := n3_; clear n0_ n1_ n2_ n3_; clear hb hbox hg) | ((with_reducible refine gate_dst (N := 3) rfl ?_); refine box_event ?hg (N := 3) ?hd (cs := #[.int .i64 a1_0, .int .i64 a1_1, .slice A1_2 l1_2.length c1_2, .slice A1_3 l1_3.length c1_3, .int .i64 a1_4, .int .i64 a1_5, .bool a1_6, .int .i64 a1_7, .int .i64 a1_8, .int .i64 a1_9, .bool a1_10, .bool a1_11, .bool a1_12, .slice A1_13 l1_13.length c1_13, .int .i64 a1_14, .int .i64 a1_15, .int .i64 a1_16, .slice A1_17 l1_17.length c1_17, .int .i64 a1_18, .int .i64 a1_19]) (t := 64) ?hr ?_; (case hd => rfl); (case hg => rfl); (case hr => first | (go_simp; done) | (go_simp; rfl)); intro gb248 hg w24 hbox hb; have n0_ := Aside0.mk (blkb hb BK247.out); have n1_ := Aside0.mk (below_step (by repeat (first | (with_reducible first | exact HB.out | apply below_alloc | apply pw_below_drewN | apply below_drew1 | refine below_set ?_ GE247.out) | exact HB.out)) hb); have n2_ := Aside0.mk (hbox); have n3_ := Aside0.mk ((by rw [hg]; exact (below_size (by repeat (first | (with_reducible first | exact HB.out | apply below_alloc | apply pw_below_drewN | apply below_drew1 | refine below_set ?_ GE247.out) | exact HB.out))) : w.heap.size ≤ gb248)); have n4_ := Aside0.mk ((by rw [hg]; exact (below_size (by repeat (first | (with_reducible first | exact HB.out | apply below_alloc | apply pw_below_drewN | apply below_drew1 | refine below_set ?_ GE247.out) | exact HB.out))) : w.heap.size ≤ gb248)); have n5_ := Aside0.mk ((blkn hg BK247.out)); have n6_ := Aside0.mk ((blkm hg BK247.out)); clear BK247; clear HB; have BK247 := n0_; have HB := n1_; have BK248 := n2_; have GW248 := n3_; have GE248 := n4_; have NB247_248 := n5_; have NB248_247 := n6_; clear n0_ n1_ n2_ n3_ n4_ n5_ n6_; clear hb hbox hg; have hnb25 := NB247_248.out; have hnc25 := NB248_247.out; have hcz26_0 : w24.cell? ⟨gb247, 0, none⟩ = some (.int .i64 a0_0) := (blk_cell BK247.out 0).trans rfl; have hcz26_1 : w24.cell? ⟨gb247, 1, none⟩ = some (.int .i64 a0_1) := (blk_cell BK247.out 1).trans rfl; have hcz26_2 : w24.cell? ⟨gb247, 2, none⟩ = some (.slice A0_2 l0_2.length c0_2) := (blk_cell BK247.out 2).trans rfl; have hcz26_3 : w24.cell? ⟨gb247, 3, none⟩ = some (.slice A0_3 l0_3.length c0_3) := (blk_cell BK247.out 3).trans rfl; have hcz26_4 : w24.cell? ⟨gb247, 4, none⟩ = some (.int .i64 a0_4) := (blk_cell BK247.out 4).trans rfl; have hcz26_5 : w24.cell? ⟨gb247, 5, none⟩ = some (.int .i64 a0_5) := (blk_cell BK247.out 5).trans rfl; have hcz26_6 : w24.cell? ⟨gb247, 6, none⟩ = some (.bool a0_6) := (blk_cell BK247.out 6).trans rfl; have hcz26_7 : w24.cell? ⟨gb247, 7, none⟩ = some (.int .i64 a0_7) := (blk_cell BK247.out 7).trans rfl; have hcz26_8 : w24.cell? ⟨gb247, 8, none⟩ = some (.int .i64 a0_8) := (blk_cell BK247.out 8).trans rfl; have hcz26_9 : w24.cell? ⟨gb247, 9, none⟩ = some (.int .i64 a0_9) := (blk_cell BK247.out 9).trans rfl; have hcz26_10 : w24.cell? ⟨gb247, 10, none⟩ = some (.bool a0_10) := (blk_cell BK247.out 10).trans rfl; have hcz26_11 : w24.cell? ⟨gb247, 11, none⟩ = some (.bool a0_11) := (blk_cell BK247.out 11).trans rfl; have hcz26_12 : w24.cell? ⟨gb247, 12, none⟩ = some (.bool a0_12) := (blk_cell BK247.out 12).trans rfl; have hcz26_13 : w24.cell? ⟨gb247, 13, none⟩ = some (.slice A0_13 l0_13.length c0_13) := (blk_cell BK247.out 13).trans rfl; have hcz26_14 : w24.cell? ⟨gb247, 14, none⟩ = some (.int .i64 a0_14) := (blk_cell BK247.out 14).trans rfl; have hcz26_15 : w24.cell? ⟨gb247, 15, none⟩ = some (.int .i64 a0_15) := (blk_cell BK247.out 15).trans rfl; have hcz26_16 : w24.cell? ⟨gb247, 16, none⟩ = some (.int .i64 a0_16) := (blk_cell BK247.out 16).trans rfl; have hcz26_17 : w24.cell? ⟨gb247, 17, none⟩ = some (.slice A0_17 l0_17.length c0_17) := (blk_cell BK247.out 17).trans rfl; have hcz26_18 : w24.cell? ⟨gb247, 18, none⟩ = some (.int .i64 a0_18) := (blk_cell BK247.out 18).trans rfl; have hcz26_19 : w24.cell? ⟨gb247, 19, none⟩ = some (.int .i64 a0_19) := (blk_cell BK247.out 19).trans rfl; have hfz26_0 := blk_frozen BK247.out 0; have hfz26_1 := blk_frozen BK247.out 1; have hfz26_2 := blk_frozen BK247.out 2; have hfz26_3 := blk_frozen BK247.out 3; have hfz26_4 := blk_frozen BK247.out 4; have hfz26_5 := blk_frozen BK247.out 5; have hfz26_6 := blk_frozen BK247.out 6; have hfz26_7 := blk_frozen BK247.out 7; have hfz26_8 := blk_frozen BK247.out 8; have hfz26_9 := blk_frozen BK247.out 9; have hfz26_10 := blk_frozen BK247.out 10; have hfz26_11 := blk_frozen BK247.out 11; have hfz26_12 := blk_frozen BK247.out 12; have hfz26_13 := blk_frozen BK247.out 13; have hfz26_14 := blk_frozen BK247.out 14; have hfz26_15 := blk_frozen BK247.out 15; have hfz26_16 := blk_frozen BK247.out 16; have hfz26_17 := blk_frozen BK247.out 17; have hfz26_18 := blk_frozen BK247.out 18; have hfz26_19 := blk_frozen BK247.out 19; have hcz27_0 : w24.cell? ⟨gb248, 0, none⟩ = some (.int .i64 a1_0) := (blk_cell BK248.out 0).trans rfl; have hcz27_1 : w24.cell? ⟨gb248, 1, none⟩ = some (.int .i64 a1_1) := (blk_cell BK248.out 1).trans rfl; have hcz27_2 : w24.cell? ⟨gb248, 2, none⟩ = some (.slice A1_2 l1_2.length c1_2) := (blk_cell BK248.out 2).trans rfl; have hcz27_3 : w24.cell? ⟨gb248, 3, none⟩ = some (.slice A1_3 l1_3.length c1_3) := (blk_cell BK248.out 3).trans rfl; have hcz27_4 : w24.cell? ⟨gb248, 4, none⟩ = some (.int .i64 a1_4) := (blk_cell BK248.out 4).trans rfl; have hcz27_5 : w24.cell? ⟨gb248, 5, none⟩ = some (.int .i64 a1_5) := (blk_cell BK248.out 5).trans rfl; have hcz27_6 : w24.cell? ⟨gb248, 6, none⟩ = some (.bool a1_6) := (blk_cell BK248.out 6).trans rfl; have hcz27_7 : w24.cell? ⟨gb248, 7, none⟩ = some (.int .i64 a1_7) := (blk_cell BK248.out 7).trans rfl; have hcz27_8 : w24.cell? ⟨gb248, 8, none⟩ = some (.int .i64 a1_8) := (blk_cell BK248.out 8).trans rfl; have hcz27_9 : w24.cell? ⟨gb248, 9, none⟩ = some (.int .i64 a1_9) := (blk_cell BK248.out 9).trans rfl; have hcz27_10 : w24.cell? ⟨gb248, 10, none⟩ = some (.bool a1_10) := (blk_cell BK248.out 10).trans rfl; have hcz27_11 : w24.cell? ⟨gb248, 11, none⟩ = some (.bool a1_11) := (blk_cell BK248.out 11).trans rfl; have hcz27_12 : w24.cell? ⟨gb248, 12, none⟩ = some (.bool a1_12) := (blk_cell BK248.out 12).trans rfl; have hcz27_13 : w24.cell? ⟨gb248, 13, none⟩ = some (.slice A1_13 l1_13.length c1_13) := (blk_cell BK248.out 13).trans rfl; have hcz27_14 : w24.cell? ⟨gb248, 14, none⟩ = some (.int .i64 a1_14) := (blk_cell BK248.out 14).trans rfl; have hcz27_15 : w24.cell? ⟨gb248, 15, none⟩ = some (.int .i64 a1_15) := (blk_cell BK248.out 15).trans rfl; have hcz27_16 : w24.cell? ⟨gb248, 16, none⟩ = some (.int .i64 a1_16) := (blk_cell BK248.out 16).trans rfl; have hcz27_17 : w24.cell? ⟨gb248, 17, none⟩ = some (.slice A1_17 l1_17.length c1_17) := (blk_cell BK248.out 17).trans rfl; have hcz27_18 : w24.cell? ⟨gb248, 18, none⟩ = some (.int .i64 a1_18) := (blk_cell BK248.out 18).trans rfl; have hcz27_19 : w24.cell? ⟨gb248, 19, none⟩ = some (.int .i64 a1_19) := (blk_cell BK248.out 19).trans rfl; have hfz27_0 := blk_frozen BK248.out 0; have hfz27_1 := blk_frozen BK248.out 1; have hfz27_2 := blk_frozen BK248.out 2; have hfz27_3 := blk_frozen BK248.out 3; have hfz27_4 := blk_frozen BK248.out 4; have hfz27_5 := blk_frozen BK248.out 5; have hfz27_6 := blk_frozen BK248.out 6; have hfz27_7 := blk_frozen BK248.out 7; have hfz27_8 := blk_frozen BK248.out 8; have hfz27_9 := blk_frozen BK248.out 9; have hfz27_10 := blk_frozen BK248.out 10; have hfz27_11 := blk_frozen BK248.out 11; have hfz27_12 := blk_frozen BK248.out 12; have hfz27_13 := blk_frozen BK248.out 13; have hfz27_14 := blk_frozen BK248.out 14; have hfz27_15 := blk_frozen BK248.out 15; have hfz27_16 := blk_frozen BK248.out 16; have hfz27_17 := blk_frozen BK248.out 17; have hfz27_18 := blk_frozen BK248.out 18; have hfz27_19 := blk_frozen BK248.out 19) | ((with_reducible refine gate_callee (f := 29) rfl ?_); refine goesL_ (some 9) rfl rfl Try.func29 (by kernel_rfl) rfl #[.agg #[.int .i64 a0_0, .int .i64 a0_1, .slice A0_2 l0_2.length c0_2, .slice A0_3 l0_3.length c0_3], .agg #[.int .i64 a1_0, .int .i64 a1_1, .slice A1_2 l1_2.length c1_2, .slice A1_3 l1_3.length c1_3]] rfl (by (try simp only [List.map_toArray, List.map_cons, List.map_nil]); first | done | rfl | (simp only [List.length_drop, List.length_take]; rfl)) ?_; (with_reducible refine (laws_eqGrid.calls k a0_0 a0_1 _ _ l0_2 _ _ l0_3 a1_0 a1_1 _ _ l1_2 _ _ l1_3  _ ?side1 ?side2 ?side3 ?side4 ?side5 ?side6 ?side7 ?side8 A3.out).mono ?_); (case side1 => repeat (first | exact (Kd.C_below HR0_2.out HB.out) | (with_reducible refine Kd.C_alloc ?_ _) | (with_reducible refine Kd.C_drewN ?_ _) | (with_reducible refine Kd.C_drew ?_))); (case side2 => exact HC0_2.out); (case side3 => repeat (first | exact (Kd.C_below HR0_3.out HB.out) | (with_reducible refine Kd.C_alloc ?_ _) | (with_reducible refine Kd.C_drewN ?_ _) | (with_reducible refine Kd.C_drew ?_))); (case side4 => exact HC0_3.out); (case side5 => repeat (first | exact (Kd.C_below HR1_2.out HB.out) | (with_reducible refine Kd.C_alloc ?_ _) | (with_reducible refine Kd.C_drewN ?_ _) | (with_reducible refine Kd.C_drew ?_))); (case side6 => exact HC1_2.out); (case side7 => repeat (first | exact (Kd.C_below HR1_3.out HB.out) | (with_reducible refine Kd.C_alloc ?_ _) | (with_reducible refine Kd.C_drewN ?_ _) | (with_reducible refine Kd.C_drew ?_))); (case side8 => exact HC1_3.out); rintro e w28 ⟨rfl, hb⟩; refine ⟨_, rfl, ?_⟩; have n0_ := Aside0.mk (blkb hb BK247.out); have n1_ := Aside0.mk (blkb hb BK248.out); have n2_ := Aside0.mk (below_step (by repeat (first | (with_reducible first | exact HB.out | apply below_alloc | apply pw_below_drewN | apply below_drew1 | refine below_set ?_ GE247.out | refine below_set ?_ GE248.out) | exact HB.out)) hb); clear BK247; clear BK248; clear HB; have BK247 := n0_; have BK248 := n1_; have HB := n2_; clear n0_ n1_ n2_; (try clear hb); (try clear hb2); (try clear hk); (try clear hi); have hcz29_0 : w28.cell? ⟨gb247, 0, none⟩ = some (.int .i64 a0_0) := (blk_cell BK247.out 0).trans rfl; have hcz29_1 : w28.cell? ⟨gb247, 1, none⟩ = some (.int .i64 a0_1) := (blk_cell BK247.out 1).trans rfl; have hcz29_2 : w28.cell? ⟨gb247, 2, none⟩ = some (.slice A0_2 l0_2.length c0_2) := (blk_cell BK247.out 2).trans rfl; have hcz29_3 : w28.cell? ⟨gb247, 3, none⟩ = some (.slice A0_3 l0_3.length c0_3) := (blk_cell BK247.out 3).trans rfl; have hcz29_4 : w28.cell? ⟨gb247, 4, none⟩ = some (.int .i64 a0_4) := (blk_cell BK247.out 4).trans rfl; have hcz29_5 : w28.cell? ⟨gb247, 5, none⟩ = some (.int .i64 a0_5) := (blk_cell BK247.out 5).trans rfl; have hcz29_6 : w28.cell? ⟨gb247, 6, none⟩ = some (.bool a0_6) := (blk_cell BK247.out 6).trans rfl; have hcz29_7 : w28.cell? ⟨gb247, 7, none⟩ = some (.int .i64 a0_7) := (blk_cell BK247.out 7).trans rfl; have hcz29_8 : w28.cell? ⟨gb247, 8, none⟩ = some (.int .i64 a0_8) := (blk_cell BK247.out 8).trans rfl; have hcz29_9 : w28.cell? ⟨gb247, 9, none⟩ = some (.int .i64 a0_9) := (blk_cell BK247.out 9).trans rfl; have hcz29_10 : w28.cell? ⟨gb247, 10, none⟩ = some (.bool a0_10) := (blk_cell BK247.out 10).trans rfl; have hcz29_11 : w28.cell? ⟨gb247, 11, none⟩ = some (.bool a0_11) := (blk_cell BK247.out 11).trans rfl; have hcz29_12 : w28.cell? ⟨gb247, 12, none⟩ = some (.bool a0_12) := (blk_cell BK247.out 12).trans rfl; have hcz29_13 : w28.cell? ⟨gb247, 13, none⟩ = some (.slice A0_13 l0_13.length c0_13) := (blk_cell BK247.out 13).trans rfl; have hcz29_14 : w28.cell? ⟨gb247, 14, none⟩ = some (.int .i64 a0_14) := (blk_cell BK247.out 14).trans rfl; have hcz29_15 : w28.cell? ⟨gb247, 15, none⟩ = some (.int .i64 a0_15) := (blk_cell BK247.out 15).trans rfl; have hcz29_16 : w28.cell? ⟨gb247, 16, none⟩ = some (.int .i64 a0_16) := (blk_cell BK247.out 16).trans rfl; have hcz29_17 : w28.cell? ⟨gb247, 17, none⟩ = some (.slice A0_17 l0_17.length c0_17) := (blk_cell BK247.out 17).trans rfl; have hcz29_18 : w28.cell? ⟨gb247, 18, none⟩ = some (.int .i64 a0_18) := (blk_cell BK247.out 18).trans rfl; have hcz29_19 : w28.cell? ⟨gb247, 19, none⟩ = some (.int .i64 a0_19) := (blk_cell BK247.out 19).trans rfl; have hfz29_0 := blk_frozen BK247.out 0; have hfz29_1 := blk_frozen BK247.out 1; have hfz29_2 := blk_frozen BK247.out 2; have hfz29_3 := blk_frozen BK247.out 3; have hfz29_4 := blk_frozen BK247.out 4; have hfz29_5 := blk_frozen BK247.out 5; have hfz29_6 := blk_frozen BK247.out 6; have hfz29_7 := blk_frozen BK247.out 7; have hfz29_8 := blk_frozen BK247.out 8; have hfz29_9 := blk_frozen BK247.out 9; have hfz29_10 := blk_frozen BK247.out 10; have hfz29_11 := blk_frozen BK247.out 11; have hfz29_12 := blk_frozen BK247.out 12; have hfz29_13 := blk_frozen BK247.out 13; have hfz29_14 := blk_frozen BK247.out 14; have hfz29_15 := blk_frozen BK247.out 15; have hfz29_16 := blk_frozen BK247.out 16; have hfz29_17 := blk_frozen BK247.out 17; have hfz29_18 := blk_frozen BK247.out 18; have hfz29_19 := blk_frozen BK247.out 19; have hcz30_0 : w28.cell? ⟨gb248, 0, none⟩ = some (.int .i64 a1_0) := (blk_cell BK248.out 0).trans rfl; have hcz30_1 : w28.cell? ⟨gb248, 1, none⟩ = some (.int .i64 a1_1) := (blk_cell BK248.out 1).trans rfl; have hcz30_2 : w28.cell? ⟨gb248, 2, none⟩ = some (.slice A1_2 l1_2.length c1_2) := (blk_cell BK248.out 2).trans rfl; have hcz30_3 : w28.cell? ⟨gb248, 3, none⟩ = some (.slice A1_3 l1_3.length c1_3) := (blk_cell BK248.out 3).trans rfl; have hcz30_4 : w28.cell? ⟨gb248, 4, none⟩ = some (.int .i64 a1_4) := (blk_cell BK248.out 4).trans rfl; have hcz30_5 : w28.cell? ⟨gb248, 5, none⟩ = some (.int .i64 a1_5) := (blk_cell BK248.out 5).trans rfl; have hcz30_6 : w28.cell? ⟨gb248, 6, none⟩ = some (.bool a1_6) := (blk_cell BK248.out 6).trans rfl; have hcz30_7 : w28.cell? ⟨gb248, 7, none⟩ = some (.int .i64 a1_7) := (blk_cell BK248.out 7).trans rfl; have hcz30_8 : w28.cell? ⟨gb248, 8, none⟩ = some (.int .i64 a1_8) := (blk_cell BK248.out 8).trans rfl; have hcz30_9 : w28.cell? ⟨gb248, 9, none⟩ = some (.int .i64 a1_9) := (blk_cell BK248.out 9).trans rfl; have hcz30_10 : w28.cell? ⟨gb248, 10, none⟩ = some (.bool a1_10) := (blk_cell BK248.out 10).trans rfl; have hcz30_11 : w28.cell? ⟨gb248, 11, none⟩ = some (.bool a1_11) := (blk_cell BK248.out 11).trans rfl; have hcz30_12 : w28.cell? ⟨gb248, 12, none⟩ = some (.bool a1_12) := (blk_cell BK248.out 12).trans rfl; have hcz30_13 : w28.cell? ⟨gb248, 13, none⟩ = some (.slice A1_13 l1_13.length c1_13) := (blk_cell BK248.out 13).trans rfl; have hcz30_14 : w28.cell? ⟨gb248, 14, none⟩ = some (.int .i64 a1_14) := (blk_cell BK248.out 14).trans rfl; have hcz30_15 : w28.cell? ⟨gb248, 15, none⟩ = some (.int .i64 a1_15) := (blk_cell BK248.out 15).trans rfl; have hcz30_16 : w28.cell? ⟨gb248, 16, none⟩ = some (.int .i64 a1_16) := (blk_cell BK248.out 16).trans rfl; have hcz30_17 : w28.cell? ⟨gb248, 17, none⟩ = some (.slice A1_17 l1_17.length c1_17) := (blk_cell BK248.out 17).trans rfl; have hcz30_18 : w28.cell? ⟨gb248, 18, none⟩ = some (.int .i64 a1_18) := (blk_cell BK248.out 18).trans rfl; have hcz30_19 : w28.cell? ⟨gb248, 19, none⟩ = some (.int .i64 a1_19) := (blk_cell BK248.out 19).trans rfl; have hfz30_0 := blk_frozen BK248.out 0; have hfz30_1 := blk_frozen BK248.out 1; have hfz30_2 := blk_frozen BK248.out 2; have hfz30_3 := blk_frozen BK248.out 3; have hfz30_4 := blk_frozen BK248.out 4; have hfz30_5 := blk_frozen BK248.out 5; have hfz30_6 := blk_frozen BK248.out 6; have hfz30_7 := blk_frozen BK248.out 7; have hfz30_8 := blk_frozen BK248.out 8; have hfz30_9 := blk_frozen BK248.out 9; have hfz30_10 := blk_frozen BK248.out 10; have hfz30_11 := blk_frozen BK248.out 11; have hfz30_12 := blk_frozen BK248.out 12; have hfz30_13 := blk_frozen BK248.out 13; have hfz30_14 := blk_frozen BK248.out 14; have hfz30_15 := blk_frozen BK248.out 15; have hfz30_16 := blk_frozen BK248.out 16; have hfz30_17 := blk_frozen BK248.out 17; have hfz30_18 := blk_frozen BK248.out 18; have hfz30_19 := blk_frozen BK248.out 19) | ((with_reducible refine gate_callee (f := 89) rfl ?_); refine goesL_ (some 60) rfl rfl Try.func89 (by kernel_rfl) rfl #[.slice A0_13 l0_13.length c0_13, .slice A1_13 l1_13.length c1_13] rfl (by (try simp only [List.map_toArray, List.map_cons, List.map_nil]); first | done | rfl | (simp only [List.length_drop, List.length_take]; rfl)) ?_; (with_reducible refine (laws_eqBoolS.calls k _ _ l0_13 _ _ l1_13  _ ?side1 ?side2 ?side3 ?side4 A14.out).mono ?_); (case side1 => repeat (first | exact (Kd.C_below HR0_13.out HB.out) | (with_reducible refine Kd.C_alloc ?_ _) | (with_reducible refine Kd.C_drewN ?_ _) | (with_reducible refine Kd.C_drew ?_))); (case side2 => exact HC0_13.out); (case side3 => repeat (first | exact (Kd.C_below HR1_13.out HB.out) | (with_reducible refine Kd.C_alloc ?_ _) | (with_reducible refine Kd.C_drewN ?_ _) | (with_reducible refine Kd.C_drew ?_))); (case side4 => exact HC1_13.out); rintro e w' ⟨rfl, ⟨nd, rfl⟩⟩; refine ⟨_, rfl, ?_⟩) | ((with_reducible refine gate_callee (f := 65) rfl ?_); refine goesL_ (some 81) rfl rfl Try.func65 (by kernel_rfl) rfl #[.slice A0_17 l0_17.length c0_17, .slice A1_17 l1_17.length c1_17] rfl (by (try simp only [List.map_toArray, List.map_cons, List.map_nil]); first | done | rfl | (simp only [List.length_drop, List.length_take]; rfl)) ?_; (with_reducible refine (laws_eqInt64S.calls k _ _ l0_17 _ _ l1_17  _ ?side1 ?side2 ?side3 ?side4 A19.out).mono ?_); (case side1 => repeat (first | exact (Kd.C_below HR0_17.out (by repeat (first | (with_reducible first | exact HB.out | apply below_alloc | apply pw_below_drewN | apply below_drew1 | refine below_set ?_ GE247.out | refine below_set ?_ GE248.out) | exact HB.out))) | (with_reducible refine Kd.C_alloc ?_ _) | (with_reducible refine Kd.C_drewN ?_ _) | (with_reducible refine Kd.C_drew ?_))); (case side2 => exact HC0_17.out); (case side3 => repeat (first | exact (Kd.C_below HR1_17.out (by repeat (first | (with_reducible first | exact HB.out | apply below_alloc | apply pw_below_drewN | apply below_drew1 | refine below_set ?_ GE247.out | refine below_set ?_ GE248.out) | exact HB.out))) | (with_reducible refine Kd.C_alloc ?_ _) | (with_reducible refine Kd.C_drewN ?_ _) | (with_reducible refine Kd.C_drew ?_))); (case side4 => exact HC1_17.out); rintro e w' ⟨rfl, ⟨nd, rfl⟩⟩; refine ⟨_, rfl, ?_⟩))
                  go_ret
                  exact ⟨by first | rfl | (simp [errW_none, errW_some] <;> rfl) | (simp [*, errW_none, errW_some] <;> rfl), by repeat (first | (with_reducible first | exact HB.out | apply below_alloc | apply pw_below_drewN | apply below_drew1 | refine below_set ?_ GE247.out | refine below_set ?_ GE248.out) | exact HB.out)⟩
                 ·rw [if_neg c22] at H
                  have c22b0 : (a0_19 == a1_19) = false := beq_eq_false_iff_ne.mpr c22
                  have c22b1 : (a0_19 != a1_19) = true := bne_iff_ne.mpr c22
                  exact absurd H (by simp)
                ·rw [if_neg c21] at H
                 have c21b0 : (a0_18 == a1_18) = false := beq_eq_false_iff_ne.mpr c21
                 have c21b1 : (a0_18 != a1_18) = true := bne_iff_ne.mpr c21
                 exact absurd H (by simp)
               ·replace c20 := Bool.eq_false_iff.mpr c20
                subst c20
                have H1 : (some false) = some true := by rw [if_neg (show ¬ (false = true) by decide)] at H; (first | done | exact H)
                clear H
                have H := H1
                clear H1
                exact absurd H (by simp)
              ·rw [if_neg c18] at H
               have c18b0 : (a0_16 == a1_16) = false := beq_eq_false_iff_ne.mpr c18
               have c18b1 : (a0_16 != a1_16) = true := bne_iff_ne.mpr c18
               exact absurd H (by simp)
             ·rw [if_neg c17] at H
              have c17b0 : (a0_15 == a1_15) = false := beq_eq_false_iff_ne.mpr c17
              have c17b1 : (a0_15 != a1_15) = true := bne_iff_ne.mpr c17
              exact absurd H (by simp)
            ·rw [if_neg c16] at H
             have c16b0 : (a0_14 == a1_14) = false := beq_eq_false_iff_ne.mpr c16
             have c16b1 : (a0_14 != a1_14) = true := bne_iff_ne.mpr c16
             exact absurd H (by simp)
           ·replace c15 := Bool.eq_false_iff.mpr c15
            subst c15
            have H1 : (some false) = some true := by rw [if_neg (show ¬ (false = true) by decide)] at H; (first | done | exact H)
            clear H
            have H := H1
            clear H1
            exact absurd H (by simp)
       ·rw [if_neg c10] at H
        have c10b0 : (a0_9 == a1_9) = false := beq_eq_false_iff_ne.mpr c10
        have c10b1 : (a0_9 != a1_9) = true := bne_iff_ne.mpr c10
        exact absurd H (by simp)
      ·rw [if_neg c9] at H
       have c9b0 : (a0_8 == a1_8) = false := beq_eq_false_iff_ne.mpr c9
       have c9b1 : (a0_8 != a1_8) = true := bne_iff_ne.mpr c9
       exact absurd H (by simp)
     ·rw [if_neg c8] at H
      have c8b0 : (a0_7 == a1_7) = false := beq_eq_false_iff_ne.mpr c8
      have c8b1 : (a0_7 != a1_7) = true := bne_iff_ne.mpr c8
      exact absurd H (by simp)
   ·rw [if_neg c6] at H
    have c6b0 : (a0_5 == a1_5) = false := beq_eq_false_iff_ne.mpr c6
    have c6b1 : (a0_5 != a1_5) = true := bne_iff_ne.mpr c6
    exact absurd H (by simp)
  ·rw [if_neg c5] at H
   have c5b0 : (a0_4 == a1_4) = false := beq_eq_false_iff_ne.mpr c5
   have c5b1 : (a0_4 != a1_4) = true := bne_iff_ne.mpr c5
   exact absurd H (by simp)
 ·replace c4 := Bool.eq_false_iff.mpr c4
  subst c4
  have H1 : (some false) = some true := by rw [if_neg (show ¬ (false = true) by decide)] at H; (first | done | exact H)
  clear H
  have H := H1
  clear H1
  exact absurd H (by simp)

/-! ### laws_eqDecoder: function 98 -/
def laws_eqDecoder.f (a0_0 : Int) (a0_1 : Int) (a0_2 : Int) (a1_0 : Int) (a1_1 : Int) (a1_2 : Int) : Option (Bool) := if a0_0 = a1_0 then (if a0_1 = a1_1 then (if a0_2 = a1_2 then (some true) else (some false)) else (some false)) else (some false)
set_option maxHeartbeats 8000000 in
set_option maxRecDepth 100000 in
theorem laws_eqDecoder.calls (a0_0 : Int) (a0_1 : Int) (a0_2 : Int) (a1_0 : Int) (a1_1 : Int) (a1_2 : Int) (w : World) (h : laws_eqDecoder.f a0_0 a0_1 a0_2 a1_0 a1_1 a1_2 = some true) :
  Calls Try.prog 98 #[.agg #[.int .i64 a0_0, .int .i64 a0_1, .int .i64 a0_2], .agg #[.int .i64 a1_0, .int .i64 a1_1, .int .i64 a1_2]] w fun e w' => e = .returned (.bool true) ∧ Below w.heap.size w w' := by
 have hu78 := Try.underlying78
 have HB := Aside0.mk (Below.refl w.heap.size w)
 have H : (if a0_0 = a1_0 then (if a0_1 = a1_1 then (if a0_2 = a1_2 then (some true) else (some false)) else (some false)) else (some false)) = some true := h
 clear h
 by_cases c3 : a0_0 = a1_0
 ·rw [if_pos c3] at H
  have c3b0 : (a0_0 == a1_0) = true := beq_iff_eq.mpr c3
  have c3b1 : (a0_0 != a1_0) = false := bne_eq_false_iff_eq.mpr c3
  clear c3
  by_cases c4 : a0_1 = a1_1
  ·rw [if_pos c4] at H
   have c4b0 : (a0_1 == a1_1) = true := beq_iff_eq.mpr c4
   have c4b1 : (a0_1 != a1_1) = false := bne_eq_false_iff_eq.mpr c4
   clear c4
   by_cases c5 : a0_2 = a1_2
   ·rw [if_pos c5] at H
    have c5b0 : (a0_2 == a1_2) = true := beq_iff_eq.mpr c5
    have c5b1 : (a0_2 != a1_2) = false := bne_eq_false_iff_eq.mpr c5
    clear c5
    go_enter Try.func98, Try.ntmps98
    go_wp2_with (first | ((with_reducible refine gate_dst (N := 2) rfl ?_); refine box_event ?hg (N := 2) ?hd (cs := #[.int .i64 a0_0, .int .i64 a0_1, .int .i64 a0_2]) (t := 78) ?hr ?_; (case hd => rfl); (case hg => rfl); (case hr => first | (go_simp; done) | (go_simp; rfl)); intro gb252 hg w6 hbox hb; have n0_ := Aside0.mk (below_step (by repeat (first | (with_reducible first | exact HB.out | apply below_alloc | apply pw_below_drewN | apply below_drew1) | exact HB.out)) hb); have n1_ := Aside0.mk (hbox); have n2_ := Aside0.mk ((by rw [hg]; exact (below_size (by repeat (first | (with_reducible first | exact HB.out | apply below_alloc | apply pw_below_drewN | apply below_drew1) | exact HB.out))) : w.heap.size ≤ gb252)); have n3_ := Aside0.mk ((by rw [hg]; exact (below_size (by repeat (first | (with_reducible first | exact HB.out | apply below_alloc | apply pw_below_drewN | apply below_drew1) | exact HB.out))) : w.heap.size ≤ gb252)); clear HB; have HB := n0_; have BK252 := n1_; have GW252 := n2_; have GE252 := n3_; clear n0_ n1_ n2_ n3_; clear hb hbox hg) | ((with_reducible refine gate_dst (N := 3) rfl ?_); refine box_event ?hg (N := 3) ?hd (cs := #[.int .i64 a1_0, .int .i64 a1_1, .int .i64 a1_2]) (t := 78) ?hr ?_; (case hd => rfl); (case hg => rfl); (case hr => first | (go_simp; done) | (go_simp; rfl)); intro gb253 hg w7 hbox hb; have n0_ := Aside0.mk (blkb hb BK252.out); have n1_ := Aside0.mk (below_step (by repeat (first | (with_reducible first | exact HB.out | apply below_alloc | apply pw_below_drewN | apply below_drew1 | refine below_set ?_ GE252.out) | exact HB.out)) hb); have n2_ := Aside0.mk (hbox); have n3_ := Aside0.mk ((by rw [hg]; exact (below_size (by repeat (first | (with_reducible first | exact HB.out | apply below_alloc | apply pw_below_drewN | apply below_drew1 | refine below_set ?_ GE252.out) | exact HB.out))) : w.heap.size ≤ gb253)); have n4_ := Aside0.mk ((by rw [hg]; exact (below_size (by repeat (first | (with_reducible first | exact HB.out | apply below_alloc | apply pw_below_drewN | apply below_drew1 | refine below_set ?_ GE252.out) | exact HB.out))) : w.heap.size ≤ gb253)); have n5_ := Aside0.mk ((blkn hg BK252.out)); have n6_ := Aside0.mk ((blkm hg BK252.out)); clear BK252; clear HB; have BK252 := n0_; have HB := n1_; have BK253 := n2_; have GW253 := n3_; have GE253 := n4_; have NB252_253 := n5_; have NB253_252 := n6_; clear n0_ n1_ n2_ n3_ n4_ n5_ n6_; clear hb hbox hg; have hnb8 := NB252_253.out; have hnc8 := NB253_252.out; have hcz9_0 : w7.cell? ⟨gb252, 0, none⟩ = some (.int .i64 a0_0) := (blk_cell BK252.out 0).trans rfl; have hcz9_1 : w7.cell? ⟨gb252, 1, none⟩ = some (.int .i64 a0_1) := (blk_cell BK252.out 1).trans rfl; have hcz9_2 : w7.cell? ⟨gb252, 2, none⟩ = some (.int .i64 a0_2) := (blk_cell BK252.out 2).trans rfl; have hfz9_0 := blk_frozen BK252.out 0; have hfz9_1 := blk_frozen BK252.out 1; have hfz9_2 := blk_frozen BK252.out 2; have hcz10_0 : w7.cell? ⟨gb253, 0, none⟩ = some (.int .i64 a1_0) := (blk_cell BK253.out 0).trans rfl; have hcz10_1 : w7.cell? ⟨gb253, 1, none⟩ = some (.int .i64 a1_1) := (blk_cell BK253.out 1).trans rfl; have hcz10_2 : w7.cell? ⟨gb253, 2, none⟩ = some (.int .i64 a1_2) := (blk_cell BK253.out 2).trans rfl; have hfz10_0 := blk_frozen BK253.out 0; have hfz10_1 := blk_frozen BK253.out 1; have hfz10_2 := blk_frozen BK253.out 2))
    go_ret
    exact ⟨by first | rfl | (simp [errW_none, errW_some] <;> rfl) | (simp [*, errW_none, errW_some] <;> rfl), by repeat (first | (with_reducible first | exact HB.out | apply below_alloc | apply pw_below_drewN | apply below_drew1 | refine below_set ?_ GE252.out | refine below_set ?_ GE253.out) | exact HB.out)⟩
   ·rw [if_neg c5] at H
    have c5b0 : (a0_2 == a1_2) = false := beq_eq_false_iff_ne.mpr c5
    have c5b1 : (a0_2 != a1_2) = true := bne_iff_ne.mpr c5
    exact absurd H (by simp)
  ·rw [if_neg c4] at H
   have c4b0 : (a0_1 == a1_1) = false := beq_eq_false_iff_ne.mpr c4
   have c4b1 : (a0_1 != a1_1) = true := bne_iff_ne.mpr c4
   exact absurd H (by simp)
 ·rw [if_neg c3] at H
  have c3b0 : (a0_0 == a1_0) = false := beq_eq_false_iff_ne.mpr c3
  have c3b1 : (a0_0 != a1_0) = true := bne_iff_ne.mpr c3
  exact absurd H (by simp)

/-! ### laws_eqVt: function 51 -/
def laws_eqVt.f (k : Nat) (a0_0 : Int) (a0_1 : Int) (a0_2 : Int) (a0_3 : Int) (a0_4 : Int) (a0_5 : Bool) (l0_6 : List Int) (a0_7 : Int) (a0_8 : Int) (l0_9 : List (S107)) (l0_10 : List (S107)) (a0_11 : Int) (a0_12 : Int) (a0_13 : Bool) (a0_14 : Int) (a0_15 : Int) (a0_16 : Int) (a0_17 : Bool) (a0_18 : Bool) (a0_19 : Bool) (l0_20 : List Bool) (a0_21 : Int) (a0_22 : Int) (a0_23 : Int) (l0_24 : List Int) (a0_25 : Int) (a0_26 : Int) (a1_0 : Int) (a1_1 : Int) (a1_2 : Int) (a1_3 : Int) (a1_4 : Int) (a1_5 : Bool) (l1_6 : List Int) (a1_7 : Int) (a1_8 : Int) (l1_9 : List (S107)) (l1_10 : List (S107)) (a1_11 : Int) (a1_12 : Int) (a1_13 : Bool) (a1_14 : Int) (a1_15 : Int) (a1_16 : Int) (a1_17 : Bool) (a1_18 : Bool) (a1_19 : Bool) (l1_20 : List Bool) (a1_21 : Int) (a1_22 : Int) (a1_23 : Int) (l1_24 : List Int) (a1_25 : Int) (a1_26 : Int) : Option (Bool) := (laws_eqDecoder.f a0_0 a0_1 a0_2 a1_0 a1_1 a1_2).bind fun t256 => (if t256 = true then ((laws_eqParser.f k a0_3 a0_4 a0_5 l0_6 a1_3 a1_4 a1_5 l1_6).bind fun t257 => (if t257 = true then ((laws_eqScreen.f k a0_7 a0_8 l0_9 l0_10 a0_11 a0_12 a0_13 a0_14 a0_15 a0_16 a0_17 a0_18 a0_19 l0_20 a0_21 a0_22 a0_23 l0_24 a0_25 a0_26 a1_7 a1_8 l1_9 l1_10 a1_11 a1_12 a1_13 a1_14 a1_15 a1_16 a1_17 a1_18 a1_19 l1_20 a1_21 a1_22 a1_23 l1_24 a1_25 a1_26).bind fun t258 => (if t258 = true then (some true) else (some false))) else (some false))) else (some false))
theorem laws_eqVt.mono : ∀ a0 a1 a2 a3 a4 a5 a6 a7 a8 a9 a10 a11 a12 a13 a14 a15 a16 a17 a18 a19 a20 a21 a22 a23 a24 a25 a26 a27 a28 a29 a30 a31 a32 a33 a34 a35 a36 a37 a38 a39 a40 a41 a42 a43 a44 a45 a46 a47 a48 a49 a50 a51 a52 a53 k, LeO (laws_eqVt.f k a0 a1 a2 a3 a4 a5 a6 a7 a8 a9 a10 a11 a12 a13 a14 a15 a16 a17 a18 a19 a20 a21 a22 a23 a24 a25 a26 a27 a28 a29 a30 a31 a32 a33 a34 a35 a36 a37 a38 a39 a40 a41 a42 a43 a44 a45 a46 a47 a48 a49 a50 a51 a52 a53) (laws_eqVt.f (k + 1) a0 a1 a2 a3 a4 a5 a6 a7 a8 a9 a10 a11 a12 a13 a14 a15 a16 a17 a18 a19 a20 a21 a22 a23 a24 a25 a26 a27 a28 a29 a30 a31 a32 a33 a34 a35 a36 a37 a38 a39 a40 a41 a42 a43 a44 a45 a46 a47 a48 a49 a50 a51 a52 a53) := by
 intro a0 a1 a2 a3 a4 a5 a6 a7 a8 a9 a10 a11 a12 a13 a14 a15 a16 a17 a18 a19 a20 a21 a22 a23 a24 a25 a26 a27 a28 a29 a30 a31 a32 a33 a34 a35 a36 a37 a38 a39 a40 a41 a42 a43 a44 a45 a46 a47 a48 a49 a50 a51 a52 a53 k
 unfold laws_eqVt.f
 repeat' first
   | (with_reducible exact laws_eqParser.mono _ _ _ _ _ _ _ _ _)
   | (with_reducible exact laws_eqScreen.mono _ _ _ _ _ _ _ _ _ _ _ _ _ _ _ _ _ _ _ _ _ _ _ _ _ _ _ _ _ _ _ _ _ _ _ _ _ _ _ _ _)
   | (with_reducible exact LeO.refl _)
   | (with_reducible exact LeO.none _)
   | (with_reducible refine LeO.ite ?_ ?_)
   | (with_reducible refine LeO.bind ?_ (fun _ => ?_))
   | exact laws_eqParser.mono _ _ _ _ _ _ _ _ _
   | exact laws_eqScreen.mono _ _ _ _ _ _ _ _ _ _ _ _ _ _ _ _ _ _ _ _ _ _ _ _ _ _ _ _ _ _ _ _ _ _ _ _ _ _ _ _ _
   | exact LeO.none _
   | refine LeO.ite ?_ ?_
   | refine LeO.bind ?_ (fun _ => ?_)
set_option maxHeartbeats 8000000 in
set_option maxRecDepth 100000 in
theorem laws_eqVt.calls (k : Nat) (a0_0 : Int) (a0_1 : Int) (a0_2 : Int) (a0_3 : Int) (a0_4 : Int) (a0_5 : Bool) (A0_6 : Option Addr) (c0_6 : Nat) (l0_6 : List Int) (a0_7 : Int) (a0_8 : Int) (A0_9 : Option Addr) (c0_9 : Nat) (l0_9 : List (S107)) (A0_10 : Option Addr) (c0_10 : Nat) (l0_10 : List (S107)) (a0_11 : Int) (a0_12 : Int) (a0_13 : Bool) (a0_14 : Int) (a0_15 : Int) (a0_16 : Int) (a0_17 : Bool) (a0_18 : Bool) (a0_19 : Bool) (A0_20 : Option Addr) (c0_20 : Nat) (l0_20 : List Bool) (a0_21 : Int) (a0_22 : Int) (a0_23 : Int) (A0_24 : Option Addr) (c0_24 : Nat) (l0_24 : List Int) (a0_25 : Int) (a0_26 : Int) (a1_0 : Int) (a1_1 : Int) (a1_2 : Int) (a1_3 : Int) (a1_4 : Int) (a1_5 : Bool) (A1_6 : Option Addr) (c1_6 : Nat) (l1_6 : List Int) (a1_7 : Int) (a1_8 : Int) (A1_9 : Option Addr) (c1_9 : Nat) (l1_9 : List (S107)) (A1_10 : Option Addr) (c1_10 : Nat) (l1_10 : List (S107)) (a1_11 : Int) (a1_12 : Int) (a1_13 : Bool) (a1_14 : Int) (a1_15 : Int) (a1_16 : Int) (a1_17 : Bool) (a1_18 : Bool) (a1_19 : Bool) (A1_20 : Option Addr) (c1_20 : Nat) (l1_20 : List Bool) (a1_21 : Int) (a1_22 : Int) (a1_23 : Int) (A1_24 : Option Addr) (c1_24 : Nat) (l1_24 : List Int) (a1_25 : Int) (a1_26 : Int) (w : World) (hr0_6 : Kd.C (Kd.int .i64) w A0_6 l0_6.length l0_6) (hc0_6 : l0_6.length ≤ c0_6) (hr0_9 : Kd.C k107 w A0_9 l0_9.length l0_9) (hc0_9 : l0_9.length ≤ c0_9) (hr0_10 : Kd.C k107 w A0_10 l0_10.length l0_10) (hc0_10 : l0_10.length ≤ c0_10) (hr0_20 : Kd.C Kd.bool w A0_20 l0_20.length l0_20) (hc0_20 : l0_20.length ≤ c0_20) (hr0_24 : Kd.C (Kd.int .i64) w A0_24 l0_24.length l0_24) (hc0_24 : l0_24.length ≤ c0_24) (hr1_6 : Kd.C (Kd.int .i64) w A1_6 l1_6.length l1_6) (hc1_6 : l1_6.length ≤ c1_6) (hr1_9 : Kd.C k107 w A1_9 l1_9.length l1_9) (hc1_9 : l1_9.length ≤ c1_9) (hr1_10 : Kd.C k107 w A1_10 l1_10.length l1_10) (hc1_10 : l1_10.length ≤ c1_10) (hr1_20 : Kd.C Kd.bool w A1_20 l1_20.length l1_20) (hc1_20 : l1_20.length ≤ c1_20) (hr1_24 : Kd.C (Kd.int .i64) w A1_24 l1_24.length l1_24) (hc1_24 : l1_24.length ≤ c1_24) (h : laws_eqVt.f k a0_0 a0_1 a0_2 a0_3 a0_4 a0_5 l0_6 a0_7 a0_8 l0_9 l0_10 a0_11 a0_12 a0_13 a0_14 a0_15 a0_16 a0_17 a0_18 a0_19 l0_20 a0_21 a0_22 a0_23 l0_24 a0_25 a0_26 a1_0 a1_1 a1_2 a1_3 a1_4 a1_5 l1_6 a1_7 a1_8 l1_9 l1_10 a1_11 a1_12 a1_13 a1_14 a1_15 a1_16 a1_17 a1_18 a1_19 l1_20 a1_21 a1_22 a1_23 l1_24 a1_25 a1_26 = some true) :
  Calls Try.prog 51 #[.agg #[.int .i64 a0_0, .int .i64 a0_1, .int .i64 a0_2, .int .i64 a0_3, .int .i64 a0_4, .bool a0_5, .slice A0_6 l0_6.length c0_6, .int .i64 a0_7, .int .i64 a0_8, .slice A0_9 l0_9.length c0_9, .slice A0_10 l0_10.length c0_10, .int .i64 a0_11, .int .i64 a0_12, .bool a0_13, .int .i64 a0_14, .int .i64 a0_15, .int .i64 a0_16, .bool a0_17, .bool a0_18, .bool a0_19, .slice A0_20 l0_20.length c0_20, .int .i64 a0_21, .int .i64 a0_22, .int .i64 a0_23, .slice A0_24 l0_24.length c0_24, .int .i64 a0_25, .int .i64 a0_26], .agg #[.int .i64 a1_0, .int .i64 a1_1, .int .i64 a1_2, .int .i64 a1_3, .int .i64 a1_4, .bool a1_5, .slice A1_6 l1_6.length c1_6, .int .i64 a1_7, .int .i64 a1_8, .slice A1_9 l1_9.length c1_9, .slice A1_10 l1_10.length c1_10, .int .i64 a1_11, .int .i64 a1_12, .bool a1_13, .int .i64 a1_14, .int .i64 a1_15, .int .i64 a1_16, .bool a1_17, .bool a1_18, .bool a1_19, .slice A1_20 l1_20.length c1_20, .int .i64 a1_21, .int .i64 a1_22, .int .i64 a1_23, .slice A1_24 l1_24.length c1_24, .int .i64 a1_25, .int .i64 a1_26]] w fun e w' => e = .returned (.bool true) ∧ Below w.heap.size w w' := by
 have hu80 := Try.underlying80
 have hu78 := Try.underlying78
 have hu35 := Try.underlying35
 have hu64 := Try.underlying64
 have HR0_6 := Aside0.mk hr0_6
 have HC0_6 := Aside0.mk hc0_6
 clear hr0_6 hc0_6
 have HR0_9 := Aside0.mk hr0_9
 have HC0_9 := Aside0.mk hc0_9
 clear hr0_9 hc0_9
 have HR0_10 := Aside0.mk hr0_10
 have HC0_10 := Aside0.mk hc0_10
 clear hr0_10 hc0_10
 have HR0_20 := Aside0.mk hr0_20
 have HC0_20 := Aside0.mk hc0_20
 clear hr0_20 hc0_20
 have HR0_24 := Aside0.mk hr0_24
 have HC0_24 := Aside0.mk hc0_24
 clear hr0_24 hc0_24
 have HR1_6 := Aside0.mk hr1_6
 have HC1_6 := Aside0.mk hc1_6
 clear hr1_6 hc1_6
 have HR1_9 := Aside0.mk hr1_9
 have HC1_9 := Aside0.mk hc1_9
 clear hr1_9 hc1_9
 have HR1_10 := Aside0.mk hr1_10
 have HC1_10 := Aside0.mk hc1_10
 clear hr1_10 hc1_10
 have HR1_20 := Aside0.mk hr1_20
 have HC1_20 := Aside0.mk hc1_20
 clear hr1_20 hc1_20
 have HR1_24 := Aside0.mk hr1_24
 have HC1_24 := Aside0.mk hc1_24
 clear hr1_24 hc1_24
 have HB := Aside0.mk (Below.refl w.heap.size w)
 have H : ((laws_eqDecoder.f a0_0 a0_1 a0_2 a1_0 a1_1 a1_2).bind fun t256 => (if t256 = true then ((laws_eqParser.f k a0_3 a0_4 a0_5 l0_6 a1_3 a1_4 a1_5 l1_6).bind fun t257 => (if t257 = true then ((laws_eqScreen.f k a0_7 a0_8 l0_9 l0_10 a0_11 a0_12 a0_13 a0_14 a0_15 a0_16 a0_17 a0_18 a0_19 l0_20 a0_21 a0_22 a0_23 l0_24 a0_25 a0_26 a1_7 a1_8 l1_9 l1_10 a1_11 a1_12 a1_13 a1_14 a1_15 a1_16 a1_17 a1_18 a1_19 l1_20 a1_21 a1_22 a1_23 l1_24 a1_25 a1_26).bind fun t258 => (if t258 = true then (some true) else (some false))) else (some false))) else (some false))) = some true := h
 clear h
 replace H := Option.bind_eq_some_iff.mp H
 obtain ⟨t256, A30, H⟩ := H
 replace H : (if t256 = true then ((laws_eqParser.f k a0_3 a0_4 a0_5 l0_6 a1_3 a1_4 a1_5 l1_6).bind fun t257 => (if t257 = true then ((laws_eqScreen.f k a0_7 a0_8 l0_9 l0_10 a0_11 a0_12 a0_13 a0_14 a0_15 a0_16 a0_17 a0_18 a0_19 l0_20 a0_21 a0_22 a0_23 l0_24 a0_25 a0_26 a1_7 a1_8 l1_9 l1_10 a1_11 a1_12 a1_13 a1_14 a1_15 a1_16 a1_17 a1_18 a1_19 l1_20 a1_21 a1_22 a1_23 l1_24 a1_25 a1_26).bind fun t258 => (if t258 = true then (some true) else (some false))) else (some false))) else (some false)) = some true := H
 have A3 := Aside0.mk A30
 clear A30
 by_cases c4 : t256 = true
 ·subst c4
  have H1 : ((laws_eqParser.f k a0_3 a0_4 a0_5 l0_6 a1_3 a1_4 a1_5 l1_6).bind fun t257 => (if t257 = true then ((laws_eqScreen.f k a0_7 a0_8 l0_9 l0_10 a0_11 a0_12 a0_13 a0_14 a0_15 a0_16 a0_17 a0_18 a0_19 l0_20 a0_21 a0_22 a0_23 l0_24 a0_25 a0_26 a1_7 a1_8 l1_9 l1_10 a1_11 a1_12 a1_13 a1_14 a1_15 a1_16 a1_17 a1_18 a1_19 l1_20 a1_21 a1_22 a1_23 l1_24 a1_25 a1_26).bind fun t258 => (if t258 = true then (some true) else (some false))) else (some false))) = some true := by rw [if_pos rfl] at H; (first | done | exact H)
  clear H
  have H := H1
  clear H1
  replace H := Option.bind_eq_some_iff.mp H
  obtain ⟨t257, A50, H⟩ := H
  replace H : (if t257 = true then ((laws_eqScreen.f k a0_7 a0_8 l0_9 l0_10 a0_11 a0_12 a0_13 a0_14 a0_15 a0_16 a0_17 a0_18 a0_19 l0_20 a0_21 a0_22 a0_23 l0_24 a0_25 a0_26 a1_7 a1_8 l1_9 l1_10 a1_11 a1_12 a1_13 a1_14 a1_15 a1_16 a1_17 a1_18 a1_19 l1_20 a1_21 a1_22 a1_23 l1_24 a1_25 a1_26).bind fun t258 => (if t258 = true then (some true) else (some false))) else (some false)) = some true := H
  have A5 := Aside0.mk A50
  clear A50
  by_cases c6 : t257 = true
  ·subst c6
   have H1 : ((laws_eqScreen.f k a0_7 a0_8 l0_9 l0_10 a0_11 a0_12 a0_13 a0_14 a0_15 a0_16 a0_17 a0_18 a0_19 l0_20 a0_21 a0_22 a0_23 l0_24 a0_25 a0_26 a1_7 a1_8 l1_9 l1_10 a1_11 a1_12 a1_13 a1_14 a1_15 a1_16 a1_17 a1_18 a1_19 l1_20 a1_21 a1_22 a1_23 l1_24 a1_25 a1_26).bind fun t258 => (if t258 = true then (some true) else (some false))) = some true := by rw [if_pos rfl] at H; (first | done | exact H)
   clear H
   have H := H1
   clear H1
   replace H := Option.bind_eq_some_iff.mp H
   obtain ⟨t258, A70, H⟩ := H
   replace H : (if t258 = true then (some true) else (some false)) = some true := H
   have A7 := Aside0.mk A70
   clear A70
   by_cases c8 : t258 = true
   ·subst c8
    have H1 : (some true) = some true := by rw [if_pos rfl] at H; (first | done | exact H)
    clear H
    have H := H1
    clear H1
    go_enter Try.func51, Try.ntmps51
    go_wp2_with (first | ((with_reducible refine Go.Proofs.YtagipnepckgdfaaCells.gate_load (t := 64) (p := 17) rfl ?_); refine Go.Proofs.YtagipnepckgdfaaCells.load_part (ty := 64) (p := 17) (g := gb254) (off := 7) (all := [.int .i64 a0_0, .int .i64 a0_1, .int .i64 a0_2, .int .i64 a0_3, .int .i64 a0_4, .bool a0_5, .slice A0_6 l0_6.length c0_6, .int .i64 a0_7, .int .i64 a0_8, .slice A0_9 l0_9.length c0_9, .slice A0_10 l0_10.length c0_10, .int .i64 a0_11, .int .i64 a0_12, .bool a0_13, .int .i64 a0_14, .int .i64 a0_15, .int .i64 a0_16, .bool a0_17, .bool a0_18, .bool a0_19, .slice A0_20 l0_20.length c0_20, .int .i64 a0_21, .int .i64 a0_22, .int .i64 a0_23, .slice A0_24 l0_24.length c0_24, .int .i64 a0_25, .int .i64 a0_26]) (cells := [.int .i64 a0_7, .int .i64 a0_8, .slice A0_9 l0_9.length c0_9, .slice A0_10 l0_10.length c0_10, .int .i64 a0_11, .int .i64 a0_12, .bool a0_13, .int .i64 a0_14, .int .i64 a0_15, .int .i64 a0_16, .bool a0_17, .bool a0_18, .bool a0_19, .slice A0_20 l0_20.length c0_20, .int .i64 a0_21, .int .i64 a0_22, .int .i64 a0_23, .slice A0_24 l0_24.length c0_24, .int .i64 a0_25, .int .i64 a0_26]) (t := 80) ?hg ?ho ?hx (by (with_reducible repeat (first | refine blk_drewN ?_ _ | refine blk_drew ?_ | refine blk_alloc ?_ _)); exact BK254.out) Try.underlying64 rfl ?hi rfl ?_; (case ho => rfl); (case hg => rfl); (case hx => rfl); (case hi => kernel_rfl)) | ((with_reducible refine Go.Proofs.YtagipnepckgdfaaCells.gate_load (t := 64) (p := 19) rfl ?_); refine Go.Proofs.YtagipnepckgdfaaCells.load_part (ty := 64) (p := 19) (g := gb255) (off := 7) (all := [.int .i64 a1_0, .int .i64 a1_1, .int .i64 a1_2, .int .i64 a1_3, .int .i64 a1_4, .bool a1_5, .slice A1_6 l1_6.length c1_6, .int .i64 a1_7, .int .i64 a1_8, .slice A1_9 l1_9.length c1_9, .slice A1_10 l1_10.length c1_10, .int .i64 a1_11, .int .i64 a1_12, .bool a1_13, .int .i64 a1_14, .int .i64 a1_15, .int .i64 a1_16, .bool a1_17, .bool a1_18, .bool a1_19, .slice A1_20 l1_20.length c1_20, .int .i64 a1_21, .int .i64 a1_22, .int .i64 a1_23, .slice A1_24 l1_24.length c1_24, .int .i64 a1_25, .int .i64 a1_26]) (cells := [.int .i64 a1_7, .int .i64 a1_8, .slice A1_9 l1_9.length c1_9, .slice A1_10 l1_10.length c1_10, .int .i64 a1_11, .int .i64 a1_12, .bool a1_13, .int .i64 a1_14, .int .i64 a1_15, .int .i64 a1_16, .bool a1_17, .bool a1_18, .bool a1_19, .slice A1_20 l1_20.length c1_20, .int .i64 a1_21, .int .i64 a1_22, .int .i64 a1_23, .slice A1_24 l1_24.length c1_24, .int .i64 a1_25, .int .i64 a1_26]) (t := 80) ?hg ?ho ?hx (by (with_reducible repeat (first | refine blk_drewN ?_ _ | refine blk_drew ?_ | refine blk_alloc ?_ _)); exact BK255.out) Try.underlying64 rfl ?hi rfl ?_; (case ho => rfl); (case hg => rfl); (case hx => rfl); (case hi => kernel_rfl)) | ((with_reducible refine gate_dst (N := 2) rfl ?_); refine box_event ?hg (N := 2) ?hd (cs := #[.int .i64 a0_0, .int .i64 a0_1, .int .i64 a0_2, .int .i64 a0_3, .int .i64 a0_4, .bool a0_5, .slice A0_6 l0_6.length c0_6, .int .i64 a0_7, .int .i64 a0_8, .slice A0_9 l0_9.length c0_9, .slice A0_10 l0_10.length c0_10, .int .i64 a0_11, .int .i64 a0_12, .bool a0_13, .int .i64 a0_14, .int .i64 a0_15, .int .i64 a0_16, .bool a0_17, .bool a0_18, .bool a0_19, .slice A0_20 l0_20.length c0_20, .int .i64 a0_21, .int .i64 a0_22, .int .i64 a0_23, .slice A0_24 l0_24.length c0_24, .int .i64 a0_25, .int .i64 a0_26]) (t := 80) ?hr ?_; (case hd => rfl); (case hg => rfl); (case hr => first | (go_simp; done) | (go_simp; rfl)); intro gb254 hg w9 hbox hb; have n0_ := Aside0.mk (below_step (by repeat (first | (with_reducible first | exact HB.out | apply below_alloc | apply pw_below_drewN | apply below_drew1) | exact HB.out)) hb); have n1_ := Aside0.mk (hbox); have n2_ := Aside0.mk ((by rw [hg]; exact (below_size (by repeat (first | (with_reducible first | exact HB.out | apply below_alloc | apply pw_below_drewN | apply below_drew1) | exact HB.out))) : w.heap.size ≤ gb254)); have n3_ := Aside0.mk ((by rw [hg]; exact (below_size (by repeat (first | (with_reducible first | exact HB.out | apply below_alloc | apply pw_below_drewN | apply below_drew1) | exact HB.out))) : w.heap.size ≤ gb254)); clear HB; have HB := n0_; have BK254 := n1_; have GW254 := n2_; have GE254 := n3_; clear n0_ n1_ n2_ n3_; clear hb hbox hg) | ((with_reducible refine gate_dst (N := 3) rfl ?_); refine box_event ?hg (N := 3) ?hd (cs := #[.int .i64 a1_0, .int .i64 a1_1, .int .i64 a1_2, .int .i64 a1_3, .int .i64 a1_4, .bool a1_5, .slice A1_6 l1_6.length c1_6, .int .i64 a1_7, .int .i64 a1_8, .slice A1_9 l1_9.length c1_9, .slice A1_10 l1_10.length c1_10, .int .i64 a1_11, .int .i64 a1_12, .bool a1_13, .int .i64 a1_14, .int .i64 a1_15, .int .i64 a1_16, .bool a1_17, .bool a1_18, .bool a1_19, .slice A1_20 l1_20.length c1_20, .int .i64 a1_21, .int .i64 a1_22, .int .i64 a1_23, .slice A1_24 l1_24.length c1_24, .int .i64 a1_25, .int .i64 a1_26]) (t := 80) ?hr ?_; (case hd => rfl); (case hg => rfl); (case hr => first | (go_simp; done) | (go_simp; rfl)); intro gb255 hg w10 hbox hb; have n0_ := Aside0.mk (blkb hb BK254.out); have n1_ := Aside0.mk (below_step (by repeat (first | (with_reducible first | exact HB.out | apply below_alloc | apply pw_below_drewN | apply below_drew1 | refine below_set ?_ GE254.out) | exact HB.out)) hb); have n2_ := Aside0.mk (hbox); have n3_ := Aside0.mk ((by rw [hg]; exact (below_size (by repeat (first | (with_reducible first | exact HB.out | apply below_alloc | apply pw_below_drewN | apply below_drew1 | refine below_set ?_ GE254.out) | exact HB.out))) : w.heap.size ≤ gb255)); have n4_ := Aside0.mk ((by rw [hg]; exact (below_size (by repeat (first | (with_reducible first | exact HB.out | apply below_alloc | apply pw_below_drewN | apply below_drew1 | refine below_set ?_ GE254.out) | exact HB.out))) : w.heap.size ≤ gb255)); have n5_ := Aside0.mk ((blkn hg BK254.out)); have n6_ := Aside0.mk ((blkm hg BK254.out)); clear BK254; clear HB; have BK254 := n0_; have HB := n1_; have BK255 := n2_; have GW255 := n3_; have GE255 := n4_; have NB254_255 := n5_; have NB255_254 := n6_; clear n0_ n1_ n2_ n3_ n4_ n5_ n6_; clear hb hbox hg; have hnb11 := NB254_255.out; have hnc11 := NB255_254.out; have hcz12_0 : w10.cell? ⟨gb254, 0, none⟩ = some (.int .i64 a0_0) := (blk_cell BK254.out 0).trans rfl; have hcz12_1 : w10.cell? ⟨gb254, 1, none⟩ = some (.int .i64 a0_1) := (blk_cell BK254.out 1).trans rfl; have hcz12_2 : w10.cell? ⟨gb254, 2, none⟩ = some (.int .i64 a0_2) := (blk_cell BK254.out 2).trans rfl; have hcz12_3 : w10.cell? ⟨gb254, 3, none⟩ = some (.int .i64 a0_3) := (blk_cell BK254.out 3).trans rfl; have hcz12_4 : w10.cell? ⟨gb254, 4, none⟩ = some (.int .i64 a0_4) := (blk_cell BK254.out 4).trans rfl; have hcz12_5 : w10.cell? ⟨gb254, 5, none⟩ = some (.bool a0_5) := (blk_cell BK254.out 5).trans rfl; have hcz12_6 : w10.cell? ⟨gb254, 6, none⟩ = some (.slice A0_6 l0_6.length c0_6) := (blk_cell BK254.out 6).trans rfl; have hcz12_7 : w10.cell? ⟨gb254, 7, none⟩ = some (.int .i64 a0_7) := (blk_cell BK254.out 7).trans rfl; have hcz12_8 : w10.cell? ⟨gb254, 8, none⟩ = some (.int .i64 a0_8) := (blk_cell BK254.out 8).trans rfl; have hcz12_9 : w10.cell? ⟨gb254, 9, none⟩ = some (.slice A0_9 l0_9.length c0_9) := (blk_cell BK254.out 9).trans rfl; have hcz12_10 : w10.cell? ⟨gb254, 10, none⟩ = some (.slice A0_10 l0_10.length c0_10) := (blk_cell BK254.out 10).trans rfl; have hcz12_11 : w10.cell? ⟨gb254, 11, none⟩ = some (.int .i64 a0_11) := (blk_cell BK254.out 11).trans rfl; have hcz12_12 : w10.cell? ⟨gb254, 12, none⟩ = some (.int .i64 a0_12) := (blk_cell BK254.out 12).trans rfl; have hcz12_13 : w10.cell? ⟨gb254, 13, none⟩ = some (.bool a0_13) := (blk_cell BK254.out 13).trans rfl; have hcz12_14 : w10.cell? ⟨gb254, 14, none⟩ = some (.int .i64 a0_14) := (blk_cell BK254.out 14).trans rfl; have hcz12_15 : w10.cell? ⟨gb254, 15, none⟩ = some (.int .i64 a0_15) := (blk_cell BK254.out 15).trans rfl; have hcz12_16 : w10.cell? ⟨gb254, 16, none⟩ = some (.int .i64 a0_16) := (blk_cell BK254.out 16).trans rfl; have hcz12_17 : w10.cell? ⟨gb254, 17, none⟩ = some (.bool a0_17) := (blk_cell BK254.out 17).trans rfl; have hcz12_18 : w10.cell? ⟨gb254, 18, none⟩ = some (.bool a0_18) := (blk_cell BK254.out 18).trans rfl; have hcz12_19 : w10.cell? ⟨gb254, 19, none⟩ = some (.bool a0_19) := (blk_cell BK254.out 19).trans rfl; have hcz12_20 : w10.cell? ⟨gb254, 20, none⟩ = some (.slice A0_20 l0_20.length c0_20) := (blk_cell BK254.out 20).trans rfl; have hcz12_21 : w10.cell? ⟨gb254, 21, none⟩ = some (.int .i64 a0_21) := (blk_cell BK254.out 21).trans rfl; have hcz12_22 : w10.cell? ⟨gb254, 22, none⟩ = some (.int .i64 a0_22) := (blk_cell BK254.out 22).trans rfl; have hcz12_23 : w10.cell? ⟨gb254, 23, none⟩ = some (.int .i64 a0_23) := (blk_cell BK254.out 23).trans rfl; have hcz12_24 : w10.cell? ⟨gb254, 24, none⟩ = some (.slice A0_24 l0_24.length c0_24) := (blk_cell BK254.out 24).trans rfl; have hcz12_25 : w10.cell? ⟨gb254, 25, none⟩ = some (.int .i64 a0_25) := (blk_cell BK254.out 25).trans rfl; have hcz12_26 : w10.cell? ⟨gb254, 26, none⟩ = some (.int .i64 a0_26) := (blk_cell BK254.out 26).trans rfl; have hfz12_0 := blk_frozen BK254.out 0; have hfz12_1 := blk_frozen BK254.out 1; have hfz12_2 := blk_frozen BK254.out 2; have hfz12_3 := blk_frozen BK254.out 3; have hfz12_4 := blk_frozen BK254.out 4; have hfz12_5 := blk_frozen BK254.out 5; have hfz12_6 := blk_frozen BK254.out 6; have hfz12_7 := blk_frozen BK254.out 7; have hfz12_8 := blk_frozen BK254.out 8; have hfz12_9 := blk_frozen BK254.out 9; have hfz12_10 := blk_frozen BK254.out 10; have hfz12_11 := blk_frozen BK254.out 11; have hfz12_12 := blk_frozen BK254.out 12; have hfz12_13 := blk_frozen BK254.out 13; have hfz12_14 := blk_frozen BK254.out 14; have hfz12_15 := blk_frozen BK254.out 15; have hfz12_16 := blk_frozen BK254.out 16; have hfz12_17 := blk_frozen BK254.out 17; have hfz12_18 := blk_frozen BK254.out 18; have hfz12_19 := blk_frozen BK254.out 19; have hfz12_20 := blk_frozen BK254.out 20; have hfz12_21 := blk_frozen BK254.out 21; have hfz12_22 := blk_frozen BK254.out 22; have hfz12_23 := blk_frozen BK254.out 23; have hfz12_24 := blk_frozen BK254.out 24; have hfz12_25 := blk_frozen BK254.out 25; have hfz12_26 := blk_frozen BK254.out 26; have hcz13_0 : w10.cell? ⟨gb255, 0, none⟩ = some (.int .i64 a1_0) := (blk_cell BK255.out 0).trans rfl; have hcz13_1 : w10.cell? ⟨gb255, 1, none⟩ = some (.int .i64 a1_1) := (blk_cell BK255.out 1).trans rfl; have hcz13_2 : w10.cell? ⟨gb255, 2, none⟩ = some (.int .i64 a1_2) := (blk_cell BK255.out 2).trans rfl; have hcz13_3 : w10.cell? ⟨gb255, 3, none⟩ = some (.int .i64 a1_3) := (blk_cell BK255.out 3).trans rfl; have hcz13_4 : w10.cell? ⟨gb255, 4, none⟩ = some (.int .i64 a1_4) := (blk_cell BK255.out 4).trans rfl; have hcz13_5 : w10.cell? ⟨gb255, 5, none⟩ = some (.bool a1_5) := (blk_cell BK255.out 5).trans rfl; have hcz13_6 : w10.cell? ⟨gb255, 6, none⟩ = some (.slice A1_6 l1_6.length c1_6) := (blk_cell BK255.out 6).trans rfl; have hcz13_7 : w10.cell? ⟨gb255, 7, none⟩ = some (.int .i64 a1_7) := (blk_cell BK255.out 7).trans rfl; have hcz13_8 : w10.cell? ⟨gb255, 8, none⟩ = some (.int .i64 a1_8) := (blk_cell BK255.out 8).trans rfl; have hcz13_9 : w10.cell? ⟨gb255, 9, none⟩ = some (.slice A1_9 l1_9.length c1_9) := (blk_cell BK255.out 9).trans rfl; have hcz13_10 : w10.cell? ⟨gb255, 10, none⟩ = some (.slice A1_10 l1_10.length c1_10) := (blk_cell BK255.out 10).trans rfl; have hcz13_11 : w10.cell? ⟨gb255, 11, none⟩ = some (.int .i64 a1_11) := (blk_cell BK255.out 11).trans rfl; have hcz13_12 : w10.cell? ⟨gb255, 12, none⟩ = some (.int .i64 a1_12) := (blk_cell BK255.out 12).trans rfl; have hcz13_13 : w10.cell? ⟨gb255, 13, none⟩ = some (.bool a1_13) := (blk_cell BK255.out 13).trans rfl; have hcz13_14 : w10.cell? ⟨gb255, 14, none⟩ = some (.int .i64 a1_14) := (blk_cell BK255.out 14).trans rfl; have hcz13_15 : w10.cell? ⟨gb255, 15, none⟩ = some (.int .i64 a1_15) := (blk_cell BK255.out 15).trans rfl; have hcz13_16 : w10.cell? ⟨gb255, 16, none⟩ = some (.int .i64 a1_16) := (blk_cell BK255.out 16).trans rfl; have hcz13_17 : w10.cell? ⟨gb255, 17, none⟩ = some (.bool a1_17) := (blk_cell BK255.out 17).trans rfl; have hcz13_18 : w10.cell? ⟨gb255, 18, none⟩ = some (.bool a1_18) := (blk_cell BK255.out 18).trans rfl; have hcz13_19 : w10.cell? ⟨gb255, 19, none⟩ = some (.bool a1_19) := (blk_cell BK255.out 19).trans rfl; have hcz13_20 : w10.cell? ⟨gb255, 20, none⟩ = some (.slice A1_20 l1_20.length c1_20) := (blk_cell BK255.out 20).trans rfl; have hcz13_21 : w10.cell? ⟨gb255, 21, none⟩ = some (.int .i64 a1_21) := (blk_cell BK255.out 21).trans rfl; have hcz13_22 : w10.cell? ⟨gb255, 22, none⟩ = some (.int .i64 a1_22) := (blk_cell BK255.out 22).trans rfl; have hcz13_23 : w10.cell? ⟨gb255, 23, none⟩ = some (.int .i64 a1_23) := (blk_cell BK255.out 23).trans rfl; have hcz13_24 : w10.cell? ⟨gb255, 24, none⟩ = some (.slice A1_24 l1_24.length c1_24) := (blk_cell BK255.out 24).trans rfl; have hcz13_25 : w10.cell? ⟨gb255, 25, none⟩ = some (.int .i64 a1_25) := (blk_cell BK255.out 25).trans rfl; have hcz13_26 : w10.cell? ⟨gb255, 26, none⟩ = some (.int .i64 a1_26) := (blk_cell BK255.out 26).trans rfl; have hfz13_0 := blk_frozen BK255.out 0; have hfz13_1 := blk_frozen BK255.out 1; have hfz13_2 := blk_frozen BK255.out 2; have hfz13_3 := blk_frozen BK255.out 3; have hfz13_4 := blk_frozen BK255.out 4; have hfz13_5 := blk_frozen BK255.out 5; have hfz13_6 := blk_frozen BK255.out 6; have hfz13_7 := blk_frozen BK255.out 7; have hfz13_8 := blk_frozen BK255.out 8; have hfz13_9 := blk_frozen BK255.out 9; have hfz13_10 := blk_frozen BK255.out 10; have hfz13_11 := blk_frozen BK255.out 11; have hfz13_12 := blk_frozen BK255.out 12; have hfz13_13 := blk_frozen BK255.out 13; have hfz13_14 := blk_frozen BK255.out 14; have hfz13_15 := blk_frozen BK255.out 15; have hfz13_16 := blk_frozen BK255.out 16; have hfz13_17 := blk_frozen BK255.out 17; have hfz13_18 := blk_frozen BK255.out 18; have hfz13_19 := blk_frozen BK255.out 19; have hfz13_20 := blk_frozen BK255.out 20; have hfz13_21 := blk_frozen BK255.out 21; have hfz13_22 := blk_frozen BK255.out 22; have hfz13_23 := blk_frozen BK255.out 23; have hfz13_24 := blk_frozen BK255.out 24; have hfz13_25 := blk_frozen BK255.out 25; have hfz13_26 := blk_frozen BK255.out 26) | ((with_reducible refine gate_callee (f := 98) rfl ?_); refine goesL_ (some 9) rfl rfl Try.func98 (by kernel_rfl) rfl #[.agg #[.int .i64 a0_0, .int .i64 a0_1, .int .i64 a0_2], .agg #[.int .i64 a1_0, .int .i64 a1_1, .int .i64 a1_2]] rfl (by (try simp only [List.map_toArray, List.map_cons, List.map_nil]); first | done | rfl | (simp only [List.length_drop, List.length_take]; rfl)) ?_; (with_reducible refine (laws_eqDecoder.calls a0_0 a0_1 a0_2 a1_0 a1_1 a1_2  _ A3.out).mono ?_); rintro e w14 ⟨rfl, hb⟩; refine ⟨_, rfl, ?_⟩; have n0_ := Aside0.mk (blkb hb BK254.out); have n1_ := Aside0.mk (blkb hb BK255.out); have n2_ := Aside0.mk (below_step (by repeat (first | (with_reducible first | exact HB.out | apply below_alloc | apply pw_below_drewN | apply below_drew1 | refine below_set ?_ GE254.out | refine below_set ?_ GE255.out) | exact HB.out)) hb); clear BK254; clear BK255; clear HB; have BK254 := n0_; have BK255 := n1_; have HB := n2_; clear n0_ n1_ n2_; (try clear hb); (try clear hb2); (try clear hk); (try clear hi); have hcz15_0 : w14.cell? ⟨gb254, 0, none⟩ = some (.int .i64 a0_0) := (blk_cell BK254.out 0).trans rfl; have hcz15_1 : w14.cell? ⟨gb254, 1, none⟩ = some (.int .i64 a0_1) := (blk_cell BK254.out 1).trans rfl; have hcz15_2 : w14.cell? ⟨gb254, 2, none⟩ = some (.int .i64 a0_2) := (blk_cell BK254.out 2).trans rfl; have hcz15_3 : w14.cell? ⟨gb254, 3, none⟩ = some (.int .i64 a0_3) := (blk_cell BK254.out 3).trans rfl; have hcz15_4 : w14.cell? ⟨gb254, 4, none⟩ = some (.int .i64 a0_4) := (blk_cell BK254.out 4).trans rfl; have hcz15_5 : w14.cell? ⟨gb254, 5, none⟩ = some (.bool a0_5) := (blk_cell BK254.out 5).trans rfl; have hcz15_6 : w14.cell? ⟨gb254, 6, none⟩ = some (.slice A0_6 l0_6.length c0_6) := (blk_cell BK254.out 6).trans rfl; have hcz15_7 : w14.cell? ⟨gb254, 7, none⟩ = some (.int .i64 a0_7) := (blk_cell BK254.out 7).trans rfl; have hcz15_8 : w14.cell? ⟨gb254, 8, none⟩ = some (.int .i64 a0_8) := (blk_cell BK254.out 8).trans rfl; have hcz15_9 : w14.cell? ⟨gb254, 9, none⟩ = some (.slice A0_9 l0_9.length c0_9) := (blk_cell BK254.out 9).trans rfl; have hcz15_10 : w14.cell? ⟨gb254, 10, none⟩ = some (.slice A0_10 l0_10.length c0_10) := (blk_cell BK254.out 10).trans rfl; have hcz15_11 : w14.cell? ⟨gb254, 11, none⟩ = some (.int .i64 a0_11) := (blk_cell BK254.out 11).trans rfl; have hcz15_12 : w14.cell? ⟨gb254, 12, none⟩ = some (.int .i64 a0_12) := (blk_cell BK254.out 12).trans rfl; have hcz15_13 : w14.cell? ⟨gb254, 13, none⟩ = some (.bool a0_13) := (blk_cell BK254.out 13).trans rfl; have hcz15_14 : w14.cell? ⟨gb254, 14, none⟩ = some (.int .i64 a0_14) := (blk_cell BK254.out 14).trans rfl; have hcz15_15 : w14.cell? ⟨gb254, 15, none⟩ = some (.int .i64 a0_15) := (blk_cell BK254.out 15).trans rfl; have hcz15_16 : w14.cell? ⟨gb254, 16, none⟩ = some (.int .i64 a0_16) := (blk_cell BK254.out 16).trans rfl; have hcz15_17 : w14.cell? ⟨gb254, 17, none⟩ = some (.bool a0_17) := (blk_cell BK254.out 17).trans rfl; have hcz15_18 : w14.cell? ⟨gb254, 18, none⟩ = some (.bool a0_18) := (blk_cell BK254.out 18).trans rfl; have hcz15_19 : w14.cell? ⟨gb254, 19, none⟩ = some (.bool a0_19) := (blk_cell BK254.out 19).trans rfl; have hcz15_20 : w14.cell? ⟨gb254, 20, none⟩ = some (.slice A0_20 l0_20.length c0_20) := (blk_cell BK254.out 20).trans rfl; have hcz15_21 : w14.cell? ⟨gb254, 21, none⟩ = some (.int .i64 a0_21) := (blk_cell BK254.out 21).trans rfl; have hcz15_22 : w14.cell? ⟨gb254, 22, none⟩ = some (.int .i64 a0_22) := (blk_cell BK254.out 22).trans rfl; have hcz15_23 : w14.cell? ⟨gb254, 23, none⟩ = some (.int .i64 a0_23) := (blk_cell BK254.out 23).trans rfl; have hcz15_24 : w14.cell? ⟨gb254, 24, none⟩ = some (.slice A0_24 l0_24.length c0_24) := (blk_cell BK254.out 24).trans rfl; have hcz15_25 : w14.cell? ⟨gb254, 25, none⟩ = some (.int .i64 a0_25) := (blk_cell BK254.out 25).trans rfl; have hcz15_26 : w14.cell? ⟨gb254, 26, none⟩ = some (.int .i64 a0_26) := (blk_cell BK254.out 26).trans rfl; have hfz15_0 := blk_frozen BK254.out 0; have hfz15_1 := blk_frozen BK254.out 1; have hfz15_2 := blk_frozen BK254.out 2; have hfz15_3 := blk_frozen BK254.out 3; have hfz15_4 := blk_frozen BK254.out 4; have hfz15_5 := blk_frozen BK254.out 5; have hfz15_6 := blk_frozen BK254.out 6; have hfz15_7 := blk_frozen BK254.out 7; have hfz15_8 := blk_frozen BK254.out 8; have hfz15_9 := blk_frozen BK254.out 9; have hfz15_10 := blk_frozen BK254.out 10; have hfz15_11 := blk_frozen BK254.out 11; have hfz15_12 := blk_frozen BK254.out 12; have hfz15_13 := blk_frozen BK254.out 13; have hfz15_14 := blk_frozen BK254.out 14; have hfz15_15 := blk_frozen BK254.out 15; have hfz15_16 := blk_frozen BK254.out 16; have hfz15_17 := blk_frozen BK254.out 17; have hfz15_18 := blk_frozen BK254.out 18; have hfz15_19 := blk_frozen BK254.out 19; have hfz15_20 := blk_frozen BK254.out 20; have hfz15_21 := blk_frozen BK254.out 21; have hfz15_22 := blk_frozen BK254.out 22; have hfz15_23 := blk_frozen BK254.out 23; have hfz15_24 := blk_frozen BK254.out 24; have hfz15_25 := blk_frozen BK254.out 25; have hfz15_26 := blk_frozen BK254.out 26; have hcz16_0 : w14.cell? ⟨gb255, 0, none⟩ = some (.int .i64 a1_0) := (blk_cell BK255.out 0).trans rfl; have hcz16_1 : w14.cell? ⟨gb255, 1, none⟩ = some (.int .i64 a1_1) := (blk_cell BK255.out 1).trans rfl; have hcz16_2 : w14.cell? ⟨gb255, 2, none⟩ = some (.int .i64 a1_2) := (blk_cell BK255.out 2).trans rfl; have hcz16_3 : w14.cell? ⟨gb255, 3, none⟩ = some (.int .i64 a1_3) := (blk_cell BK255.out 3).trans rfl; have hcz16_4 : w14.cell? ⟨gb255, 4, none⟩ = some (.int .i64 a1_4) := (blk_cell BK255.out 4).trans rfl; have hcz16_5 : w14.cell? ⟨gb255, 5, none⟩ = some (.bool a1_5) := (blk_cell BK255.out 5).trans rfl; have hcz16_6 : w14.cell? ⟨gb255, 6, none⟩ = some (.slice A1_6 l1_6.length c1_6) := (blk_cell BK255.out 6).trans rfl; have hcz16_7 : w14.cell? ⟨gb255, 7, none⟩ = some (.int .i64 a1_7) := (blk_cell BK255.out 7).trans rfl; have hcz16_8 : w14.cell? ⟨gb255, 8, none⟩ = some (.int .i64 a1_8) := (blk_cell BK255.out 8).trans rfl; have hcz16_9 : w14.cell? ⟨gb255, 9, none⟩ = some (.slice A1_9 l1_9.length c1_9) := (blk_cell BK255.out 9).trans rfl; have hcz16_10 : w14.cell? ⟨gb255, 10, none⟩ = some (.slice A1_10 l1_10.length c1_10) := (blk_cell BK255.out 10).trans rfl; have hcz16_11 : w14.cell? ⟨gb255, 11, none⟩ = some (.int .i64 a1_11) := (blk_cell BK255.out 11).trans rfl; have hcz16_12 : w14.cell? ⟨gb255, 12, none⟩ = some (.int .i64 a1_12) := (blk_cell BK255.out 12).trans rfl; have hcz16_13 : w14.cell? ⟨gb255, 13, none⟩ = some (.bool a1_13) := (blk_cell BK255.out 13).trans rfl; have hcz16_14 : w14.cell? ⟨gb255, 14, none⟩ = some (.int .i64 a1_14) := (blk_cell BK255.out 14).trans rfl; have hcz16_15 : w14.cell? ⟨gb255, 15, none⟩ = some (.int .i64 a1_15) := (blk_cell BK255.out 15).trans rfl; have hcz16_16 : w14.cell? ⟨gb255, 16, none⟩ = some (.int .i64 a1_16) := (blk_cell BK255.out 16).trans rfl; have hcz16_17 : w14.cell? ⟨gb255, 17, none⟩ = some (.bool a1_17) := (blk_cell BK255.out 17).trans rfl; have hcz16_18 : w14.cell? ⟨gb255, 18, none⟩ = some (.bool a1_18) := (blk_cell BK255.out 18).trans rfl; have hcz16_19 : w14.cell? ⟨gb255, 19, none⟩ = some (.bool a1_19) := (blk_cell BK255.out 19).trans rfl; have hcz16_20 : w14.cell? ⟨gb255, 20, none⟩ = some (.slice A1_20 l1_20.length c1_20) := (blk_cell BK255.out 20).trans rfl; have hcz16_21 : w14.cell? ⟨gb255, 21, none⟩ = some (.int .i64 a1_21) := (blk_cell BK255.out 21).trans rfl; have hcz16_22 : w14.cell? ⟨gb255, 22, none⟩ = some (.int .i64 a1_22) := (blk_cell BK255.out 22).trans rfl; have hcz16_23 : w14.cell? ⟨gb255, 23, none⟩ = some (.int .i64 a1_23) := (blk_cell BK255.out 23).trans rfl; have hcz16_24 : w14.cell? ⟨gb255, 24, none⟩ = some (.slice A1_24 l1_24.length c1_24) := (blk_cell BK255.out 24).trans rfl; have hcz16_25 : w14.cell? ⟨gb255, 25, none⟩ = some (.int .i64 a1_25) := (blk_cell BK255.out 25).trans rfl; have hcz16_26 : w14.cell? ⟨gb255, 26, none⟩ = some (.int .i64 a1_26) := (blk_cell BK255.out 26).trans rfl; have hfz16_0 := blk_frozen BK255.out 0; have hfz16_1 := blk_frozen BK255.out 1; have hfz16_2 := blk_frozen BK255.out 2; have hfz16_3 := blk_frozen BK255.out 3; have hfz16_4 := blk_frozen BK255.out 4; have hfz16_5 := blk_frozen BK255.out 5; have hfz16_6 := blk_frozen BK255.out 6; have hfz16_7 := blk_frozen BK255.out 7; have hfz16_8 := blk_frozen BK255.out 8; have hfz16_9 := blk_frozen BK255.out 9; have hfz16_10 := blk_frozen BK255.out 10; have hfz16_11 := blk_frozen BK255.out 11; have hfz16_12 := blk_frozen BK255.out 12; have hfz16_13 := blk_frozen BK255.out 13; have hfz16_14 := blk_frozen BK255.out 14; have hfz16_15 := blk_frozen BK255.out 15; have hfz16_16 := blk_frozen BK255.out 16; have hfz16_17 := blk_frozen BK255.out 17; have hfz16_18 := blk_frozen BK255.out 18; have hfz16_19 := blk_frozen BK255.out 19; have hfz16_20 := blk_frozen BK255.out 20; have hfz16_21 := blk_frozen BK255.out 21; have hfz16_22 := blk_frozen BK255.out 22; have hfz16_23 := blk_frozen BK255.out 23; have hfz16_24 := blk_frozen BK255.out 24; have hfz16_25 := blk_frozen BK255.out 25; have hfz16_26 := blk_frozen BK255.out 26) | ((with_reducible refine gate_callee (f := 22) rfl ?_); refine goesL_ (some 15) rfl rfl Try.func22 (by kernel_rfl) rfl #[.agg #[.int .i64 a0_3, .int .i64 a0_4, .bool a0_5, .slice A0_6 l0_6.length c0_6], .agg #[.int .i64 a1_3, .int .i64 a1_4, .bool a1_5, .slice A1_6 l1_6.length c1_6]] rfl (by (try simp only [List.map_toArray, List.map_cons, List.map_nil]); first | done | rfl | (simp only [List.length_drop, List.length_take]; rfl)) ?_; (with_reducible refine (laws_eqParser.calls k a0_3 a0_4 a0_5 _ _ l0_6 a1_3 a1_4 a1_5 _ _ l1_6  _ ?side1 ?side2 ?side3 ?side4 A5.out).mono ?_); (case side1 => repeat (first | exact (Kd.C_below HR0_6.out HB.out) | (with_reducible refine Kd.C_alloc ?_ _) | (with_reducible refine Kd.C_drewN ?_ _) | (with_reducible refine Kd.C_drew ?_))); (case side2 => exact HC0_6.out); (case side3 => repeat (first | exact (Kd.C_below HR1_6.out HB.out) | (with_reducible refine Kd.C_alloc ?_ _) | (with_reducible refine Kd.C_drewN ?_ _) | (with_reducible refine Kd.C_drew ?_))); (case side4 => exact HC1_6.out); rintro e w17 ⟨rfl, hb⟩; refine ⟨_, rfl, ?_⟩; have n0_ := Aside0.mk (blkb hb BK254.out); have n1_ := Aside0.mk (blkb hb BK255.out); have n2_ := Aside0.mk (below_step (by repeat (first | (with_reducible first | exact HB.out | apply below_alloc | apply pw_below_drewN | apply below_drew1 | refine below_set ?_ GE254.out | refine below_set ?_ GE255.out) | exact HB.out)) hb); clear BK254; clear BK255; clear HB; have BK254 := n0_; have BK255 := n1_; have HB := n2_; clear n0_ n1_ n2_; (try clear hb); (try clear hb2); (try clear hk); (try clear hi); have hcz18_0 : w17.cell? ⟨gb254, 0, none⟩ = some (.int .i64 a0_0) := (blk_cell BK254.out 0).trans rfl; have hcz18_1 : w17.cell? ⟨gb254, 1, none⟩ = some (.int .i64 a0_1) := (blk_cell BK254.out 1).trans rfl; have hcz18_2 : w17.cell? ⟨gb254, 2, none⟩ = some (.int .i64 a0_2) := (blk_cell BK254.out 2).trans rfl; have hcz18_3 : w17.cell? ⟨gb254, 3, none⟩ = some (.int .i64 a0_3) := (blk_cell BK254.out 3).trans rfl; have hcz18_4 : w17.cell? ⟨gb254, 4, none⟩ = some (.int .i64 a0_4) := (blk_cell BK254.out 4).trans rfl; have hcz18_5 : w17.cell? ⟨gb254, 5, none⟩ = some (.bool a0_5) := (blk_cell BK254.out 5).trans rfl; have hcz18_6 : w17.cell? ⟨gb254, 6, none⟩ = some (.slice A0_6 l0_6.length c0_6) := (blk_cell BK254.out 6).trans rfl; have hcz18_7 : w17.cell? ⟨gb254, 7, none⟩ = some (.int .i64 a0_7) := (blk_cell BK254.out 7).trans rfl; have hcz18_8 : w17.cell? ⟨gb254, 8, none⟩ = some (.int .i64 a0_8) := (blk_cell BK254.out 8).trans rfl; have hcz18_9 : w17.cell? ⟨gb254, 9, none⟩ = some (.slice A0_9 l0_9.length c0_9) := (blk_cell BK254.out 9).trans rfl; have hcz18_10 : w17.cell? ⟨gb254, 10, none⟩ = some (.slice A0_10 l0_10.length c0_10) := (blk_cell BK254.out 10).trans rfl; have hcz18_11 : w17.cell? ⟨gb254, 11, none⟩ = some (.int .i64 a0_11) := (blk_cell BK254.out 11).trans rfl; have hcz18_12 : w17.cell? ⟨gb254, 12, none⟩ = some (.int .i64 a0_12) := (blk_cell BK254.out 12).trans rfl; have hcz18_13 : w17.cell? ⟨gb254, 13, none⟩ = some (.bool a0_13) := (blk_cell BK254.out 13).trans rfl; have hcz18_14 : w17.cell? ⟨gb254, 14, none⟩ = some (.int .i64 a0_14) := (blk_cell BK254.out 14).trans rfl; have hcz18_15 : w17.cell? ⟨gb254, 15, none⟩ = some (.int .i64 a0_15) := (blk_cell BK254.out 15).trans rfl; have hcz18_16 : w17.cell? ⟨gb254, 16, none⟩ = some (.int .i64 a0_16) := (blk_cell BK254.out 16).trans rfl; have hcz18_17 : w17.cell? ⟨gb254, 17, none⟩ = some (.bool a0_17) := (blk_cell BK254.out 17).trans rfl; have hcz18_18 : w17.cell? ⟨gb254, 18, none⟩ = some (.bool a0_18) := (blk_cell BK254.out 18).trans rfl; have hcz18_19 : w17.cell? ⟨gb254, 19, none⟩ = some (.bool a0_19) := (blk_cell BK254.out 19).trans rfl; have hcz18_20 : w17.cell? ⟨gb254, 20, none⟩ = some (.slice A0_20 l0_20.length c0_20) := (blk_cell BK254.out 20).trans rfl; have hcz18_21 : w17.cell? ⟨gb254, 21, none⟩ = some (.int .i64 a0_21) := (blk_cell BK254.out 21).trans rfl; have hcz18_22 : w17.cell? ⟨gb254, 22, none⟩ = some (.int .i64 a0_22) := (blk_cell BK254.out 22).trans rfl; have hcz18_23 : w17.cell? ⟨gb254, 23, none⟩ = some (.int .i64 a0_23) := (blk_cell BK254.out 23).trans rfl; have hcz18_24 : w17.cell? ⟨gb254, 24, none⟩ = some (.slice A0_24 l0_24.length c0_24) := (blk_cell BK254.out 24).trans rfl; have hcz18_25 : w17.cell? ⟨gb254, 25, none⟩ = some (.int .i64 a0_25) := (blk_cell BK254.out 25).trans rfl; have hcz18_26 : w17.cell? ⟨gb254, 26, none⟩ = some (.int .i64 a0_26) := (blk_cell BK254.out 26).trans rfl; have hfz18_0 := blk_frozen BK254.out 0; have hfz18_1 := blk_frozen BK254.out 1; have hfz18_2 := blk_frozen BK254.out 2; have hfz18_3 := blk_frozen BK254.out 3; have hfz18_4 := blk_frozen BK254.out 4; have hfz18_5 := blk_frozen BK254.out 5; have hfz18_6 := blk_frozen BK254.out 6; have hfz18_7 := blk_frozen BK254.out 7; have hfz18_8 := blk_frozen BK254.out 8; have hfz18_9 := blk_frozen BK254.out 9; have hfz18_10 := blk_frozen BK254.out 10; have hfz18_11 := blk_frozen BK254.out 11; have hfz18_12 := blk_frozen BK254.out 12; have hfz18_13 := blk_frozen BK254.out 13; have hfz18_14 := blk_frozen BK254.out 14; have hfz18_15 := blk_frozen BK254.out 15; have hfz18_16 := blk_frozen BK254.out 16; have hfz18_17 := blk_frozen BK254.out 17; have hfz18_18 := blk_frozen BK254.out 18; have hfz18_19 := blk_frozen BK254.out 19; have hfz18_20 := blk_frozen BK254.out 20; have hfz18_21 := blk_frozen BK254.out 21; have hfz18_22 := blk_frozen BK254.out 22; have hfz18_23 := blk_frozen BK254.out 23; have hfz18_24 := blk_frozen BK254.out 24; have hfz18_25 := blk_frozen BK254.out 25; have hfz18_26 := blk_frozen BK254.out 26; have hcz19_0 : w17.cell? ⟨gb255, 0, none⟩ = some (.int .i64 a1_0) := (blk_cell BK255.out 0).trans rfl; have hcz19_1 : w17.cell? ⟨gb255, 1, none⟩ = some (.int .i64 a1_1) := (blk_cell BK255.out 1).trans rfl; have hcz19_2 : w17.cell? ⟨gb255, 2, none⟩ = some (.int .i64 a1_2) := (blk_cell BK255.out 2).trans rfl; have hcz19_3 : w17.cell? ⟨gb255, 3, none⟩ = some (.int .i64 a1_3) := (blk_cell BK255.out 3).trans rfl; have hcz19_4 : w17.cell? ⟨gb255, 4, none⟩ = some (.int .i64 a1_4) := (blk_cell BK255.out 4).trans rfl; have hcz19_5 : w17.cell? ⟨gb255, 5, none⟩ = some (.bool a1_5) := (blk_cell BK255.out 5).trans rfl; have hcz19_6 : w17.cell? ⟨gb255, 6, none⟩ = some (.slice A1_6 l1_6.length c1_6) := (blk_cell BK255.out 6).trans rfl; have hcz19_7 : w17.cell? ⟨gb255, 7, none⟩ = some (.int .i64 a1_7) := (blk_cell BK255.out 7).trans rfl; have hcz19_8 : w17.cell? ⟨gb255, 8, none⟩ = some (.int .i64 a1_8) := (blk_cell BK255.out 8).trans rfl; have hcz19_9 : w17.cell? ⟨gb255, 9, none⟩ = some (.slice A1_9 l1_9.length c1_9) := (blk_cell BK255.out 9).trans rfl; have hcz19_10 : w17.cell? ⟨gb255, 10, none⟩ = some (.slice A1_10 l1_10.length c1_10) := (blk_cell BK255.out 10).trans rfl; have hcz19_11 : w17.cell? ⟨gb255, 11, none⟩ = some (.int .i64 a1_11) := (blk_cell BK255.out 11).trans rfl; have hcz19_12 : w17.cell? ⟨gb255, 12, none⟩ = some (.int .i64 a1_12) := (blk_cell BK255.out 12).trans rfl; have hcz19_13 : w17.cell? ⟨gb255, 13, none⟩ = some (.bool a1_13) := (blk_cell BK255.out 13).trans rfl; have hcz19_14 : w17.cell? ⟨gb255, 14, none⟩ = some (.int .i64 a1_14) := (blk_cell BK255.out 14).trans rfl; have hcz19_15 : w17.cell? ⟨gb255, 15, none⟩ = some (.int .i64 a1_15) := (blk_cell BK255.out 15).trans rfl; have hcz19_16 : w17.cell? ⟨gb255, 16, none⟩ = some (.int .i64 a1_16) := (blk_cell BK255.out 16).trans rfl; have hcz19_17 : w17.cell? ⟨gb255, 17, none⟩ = some (.bool a1_17) := (blk_cell BK255.out 17).trans rfl; have hcz19_18 : w17.cell? ⟨gb255, 18, none⟩ = some (.bool a1_18) := (blk_cell BK255.out 18).trans rfl; have hcz19_19 : w17.cell? ⟨gb255, 19, none⟩ = some (.bool a1_19) := (blk_cell BK255.out 19).trans rfl; have hcz19_20 : w17.cell? ⟨gb255, 20, none⟩ = some (.slice A1_20 l1_20.length c1_20) := (blk_cell BK255.out 20).trans rfl; have hcz19_21 : w17.cell? ⟨gb255, 21, none⟩ = some (.int .i64 a1_21) := (blk_cell BK255.out 21).trans rfl; have hcz19_22 : w17.cell? ⟨gb255, 22, none⟩ = some (.int .i64 a1_22) := (blk_cell BK255.out 22).trans rfl; have hcz19_23 : w17.cell? ⟨gb255, 23, none⟩ = some (.int .i64 a1_23) := (blk_cell BK255.out 23).trans rfl; have hcz19_24 : w17.cell? ⟨gb255, 24, none⟩ = some (.slice A1_24 l1_24.length c1_24) := (blk_cell BK255.out 24).trans rfl; have hcz19_25 : w17.cell? ⟨gb255, 25, none⟩ = some (.int .i64 a1_25) := (blk_cell BK255.out 25).trans rfl; have hcz19_26 : w17.cell? ⟨gb255, 26, none⟩ = some (.int .i64 a1_26) := (blk_cell BK255.out 26).trans rfl; have hfz19_0 := blk_frozen BK255.out 0; have hfz19_1 := blk_frozen BK255.out 1; have hfz19_2 := blk_frozen BK255.out 2; have hfz19_3 := blk_frozen BK255.out 3; have hfz19_4 := blk_frozen BK255.out 4; have hfz19_5 := blk_frozen BK255.out 5; have hfz19_6 := blk_frozen BK255.out 6; have hfz19_7 := blk_frozen BK255.out 7; have hfz19_8 := blk_frozen BK255.out 8; have hfz19_9 := blk_frozen BK255.out 9; have hfz19_10 := blk_frozen BK255.out 10; have hfz19_11 := blk_frozen BK255.out 11; have hfz19_12 := blk_frozen BK255.out 12; have hfz19_13 := blk_frozen BK255.out 13; have hfz19_14 := blk_frozen BK255.out 14; have hfz19_15 := blk_frozen BK255.out 15; have hfz19_16 := blk_frozen BK255.out 16; have hfz19_17 := blk_frozen BK255.out 17; have hfz19_18 := blk_frozen BK255.out 18; have hfz19_19 := blk_frozen BK255.out 19; have hfz19_20 := blk_frozen BK255.out 20; have hfz19_21 := blk_frozen BK255.out 21; have hfz19_22 := blk_frozen BK255.out 22; have hfz19_23 := blk_frozen BK255.out 23; have hfz19_24 := blk_frozen BK255.out 24; have hfz19_25 := blk_frozen BK255.out 25; have hfz19_26 := blk_frozen BK255.out 26) | ((with_reducible refine gate_callee (f := 41) rfl ?_); refine goesL_ (some 21) rfl rfl Try.func41 (by kernel_rfl) rfl #[.agg #[.int .i64 a0_7, .int .i64 a0_8, .slice A0_9 l0_9.length c0_9, .slice A0_10 l0_10.length c0_10, .int .i64 a0_11, .int .i64 a0_12, .bool a0_13, .int .i64 a0_14, .int .i64 a0_15, .int .i64 a0_16, .bool a0_17, .bool a0_18, .bool a0_19, .slice A0_20 l0_20.length c0_20, .int .i64 a0_21, .int .i64 a0_22, .int .i64 a0_23, .slice A0_24 l0_24.length c0_24, .int .i64 a0_25, .int .i64 a0_26], .agg #[.int .i64 a1_7, .int .i64 a1_8, .slice A1_9 l1_9.length c1_9, .slice A1_10 l1_10.length c1_10, .int .i64 a1_11, .int .i64 a1_12, .bool a1_13, .int .i64 a1_14, .int .i64 a1_15, .int .i64 a1_16, .bool a1_17, .bool a1_18, .bool a1_19, .slice A1_20 l1_20.length c1_20, .int .i64 a1_21, .int .i64 a1_22, .int .i64 a1_23, .slice A1_24 l1_24.length c1_24, .int .i64 a1_25, .int .i64 a1_26]] rfl (by (try simp only [List.map_toArray, List.map_cons, List.map_nil]); first | done | rfl | (simp only [List.length_drop, List.length_take]; rfl)) ?_; (with_reducible refine (laws_eqScreen.calls k a0_7 a0_8 _ _ l0_9 _ _ l0_10 a0_11 a0_12 a0_13 a0_14 a0_15 a0_16 a0_17 a0_18 a0_19 _ _ l0_20 a0_21 a0_22 a0_23 _ _ l0_24 a0_25 a0_26 a1_7 a1_8 _ _ l1_9 _ _ l1_10 a1_11 a1_12 a1_13 a1_14 a1_15 a1_16 a1_17 a1_18 a1_19 _ _ l1_20 a1_21 a1_22 a1_23 _ _ l1_24 a1_25 a1_26  _ ?side1 ?side2 ?side3 ?side4 ?side5 ?side6 ?side7 ?side8 ?side9 ?side10 ?side11 ?side12 ?side13 ?side14 ?side15 ?side16 A7.out).mono ?_); (case side1 => repeat (first | exact (Kd.C_below HR0_9.out HB.out) | (with_reducible refine Kd.C_alloc ?_ _) | (with_reducible refine Kd.C_drewN ?_ _) | (with_reducible refine Kd.C_drew ?_))); (case side2 => exact HC0_9.out); (case side3 => repeat (first | exact (Kd.C_below HR0_10.out HB.out) | (with_reducible refine Kd.C_alloc ?_ _) | (with_reducible refine Kd.C_drewN ?_ _) | (with_reducible refine Kd.C_drew ?_))); (case side4 => exact HC0_10.out); (case side5 => repeat (first | exact (Kd.C_below HR0_20.out HB.out) | (with_reducible refine Kd.C_alloc ?_ _) | (with_reducible refine Kd.C_drewN ?_ _) | (with_reducible refine Kd.C_drew ?_))); (case side6 => exact HC0_20.out); (case side7 => repeat (first | exact (Kd.C_below HR0_24.out HB.out) | (with_reducible refine Kd.C_alloc ?_ _) | (with_reducible refine Kd.C_drewN ?_ _) | (with_reducible refine Kd.C_drew ?_))); (case side8 => exact HC0_24.out); (case side9 => repeat (first | exact (Kd.C_below HR1_9.out HB.out) | (with_reducible refine Kd.C_alloc ?_ _) | (with_reducible refine Kd.C_drewN ?_ _) | (with_reducible refine Kd.C_drew ?_))); (case side10 => exact HC1_9.out); (case side11 => repeat (first | exact (Kd.C_below HR1_10.out HB.out) | (with_reducible refine Kd.C_alloc ?_ _) | (with_reducible refine Kd.C_drewN ?_ _) | (with_reducible refine Kd.C_drew ?_))); (case side12 => exact HC1_10.out); (case side13 => repeat (first | exact (Kd.C_below HR1_20.out HB.out) | (with_reducible refine Kd.C_alloc ?_ _) | (with_reducible refine Kd.C_drewN ?_ _) | (with_reducible refine Kd.C_drew ?_))); (case side14 => exact HC1_20.out); (case side15 => repeat (first | exact (Kd.C_below HR1_24.out HB.out) | (with_reducible refine Kd.C_alloc ?_ _) | (with_reducible refine Kd.C_drewN ?_ _) | (with_reducible refine Kd.C_drew ?_))); (case side16 => exact HC1_24.out); rintro e w20 ⟨rfl, hb⟩; refine ⟨_, rfl, ?_⟩; have n0_ := Aside0.mk (blkb hb BK254.out); have n1_ := Aside0.mk (blkb hb BK255.out); have n2_ := Aside0.mk (below_step (by repeat (first | (with_reducible first | exact HB.out | apply below_alloc | apply pw_below_drewN | apply below_drew1 | refine below_set ?_ GE254.out | refine below_set ?_ GE255.out) | exact HB.out)) hb); clear BK254; clear BK255; clear HB; have BK254 := n0_; have BK255 := n1_; have HB := n2_; clear n0_ n1_ n2_; (try clear hb); (try clear hb2); (try clear hk); (try clear hi)))
    go_ret
    exact ⟨by first | rfl | (simp [errW_none, errW_some] <;> rfl) | (simp [*, errW_none, errW_some] <;> rfl), by repeat (first | (with_reducible first | exact HB.out | apply below_alloc | apply pw_below_drewN | apply below_drew1 | refine below_set ?_ GE254.out | refine below_set ?_ GE255.out) | exact HB.out)⟩
   ·replace c8 := Bool.eq_false_iff.mpr c8
    subst c8
    have H1 : (some false) = some true := by rw [if_neg (show ¬ (false = true) by decide)] at H; (first | done | exact H)
    clear H
    have H := H1
    clear H1
    exact absurd H (by simp)
  ·replace c6 := Bool.eq_false_iff.mpr c6
   subst c6
   have H1 : (some false) = some true := by rw [if_neg (show ¬ (false = true) by decide)] at H; (first | done | exact H)
   clear H
   have H := H1
   clear H1
   exact absurd H (by simp)
 ·replace c4 := Bool.eq_false_iff.mpr c4
  subst c4
  have H1 : (some false) = some true := by rw [if_neg (show ¬ (false = true) by decide)] at H; (first | done | exact H)
  clear H
  have H := H1
  clear H1
  exact absurd H (by simp)

end Go.Proofs.Ytagipnepckgdfaa.PFnExactNewVt
