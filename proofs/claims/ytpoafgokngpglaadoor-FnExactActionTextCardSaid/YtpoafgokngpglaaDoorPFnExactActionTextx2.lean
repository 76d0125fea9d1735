-- Written for this claim by a program of this session's (wip/p2.sh).
import Derived.Test.YtpoafgokngpglaaDoorPFnExactActionTextx0
import Derived.Test.YtpoafgokngpglaaDoorPFnExactActionTextx1
namespace Go.Proofs.YtpoafgokngpglaaDoor.PFnExactActionText
open Go.RowKit Go.Proofs.YtpoafgokngpglaaDoorW.PrintWords Go.Proofs.YtpoafgokngpglaaDoorW.PrintLast Go.Proofs.YtpoafgokngpglaaDoorW.PrintMore
attribute [local go_sem] max2_int min2_int max_two min_two max_three min_three max_four min_four   -- for this text's walks alone
set_option linter.unusedVariables false
set_option linter.unusedSimpArgs false

/-! ### spec_l4Char: function 97 -/
def spec_l4Char.f (a0_0 : Int) (a0_1 : Int) (a0_2 : Int) (a0_3 : Bool) (l0_4 : List Int) : Option (Bool) := if a0_0 = 1 then ((spec_l4Shown.f a0_1).bind fun t109 => (some t109)) else (if a0_0 = 2 then ((spec_l1In.f a0_1 0 31).bind fun t110 => (if t110 = true then (if a0_1 = 24 then (some false) else (if a0_1 = 26 then (some false) else (some (a0_1 != 27)))) else (some false))) else (if a0_0 = 3 then ((spec_l1In.f a0_1 48 126).bind fun t111 => (if t111 = true then (some (a0_1 != 91)) else (some false))) else (if a0_0 = 5 then ((spec_l4Shown.f a0_1).bind fun t112 => (if t112 = true then ((spec_l1In.f a0_2 1 2).bind fun t113 => (some t113)) else (some false))) else (if a0_0 = 4 then ((spec_l1In.f a0_1 64 126).bind fun t114 => (some t114)) else (some true)))))
set_option maxHeartbeats 8000000 in
set_option maxRecDepth 100000 in
theorem spec_l4Char.calls (gp0 : Nat) (a0_0 : Int) (a0_1 : Int) (a0_2 : Int) (a0_3 : Bool) (A0_4 : Option Addr) (c0_4 : Nat) (l0_4 : List Int) (r : Bool) (w : World) (hp0 : w.heap[gp0]? = some (.cells #[.int .i64 a0_0, .int .i64 a0_1, .int .i64 a0_2, .bool a0_3, .slice A0_4 l0_4.length c0_4] 65 (0, 0))) (hr0_4 : Kd.C (Kd.int .i64) w A0_4 l0_4.length l0_4) (hc0_4 : l0_4.length ≤ c0_4) (h : spec_l4Char.f a0_0 a0_1 a0_2 a0_3 l0_4 = some r) :
    Calls Tryd.prog 97 #[.pointer (some ⟨gp0, 0, none⟩)] w fun e w' => e = .returned (.bool r) ∧ Below w.heap.size w w' := by
  have HR0_4 := Aside0.mk hr0_4
  have HC0_4 := Aside0.mk hc0_4
  clear hr0_4 hc0_4
  have BK50 := Aside0.mk hp0
  clear hp0
  have HB := Aside0.mk (Below.refl w.heap.size w)
  have H : (if a0_0 = 1 then ((spec_l4Shown.f a0_1).bind fun t109 => (some t109)) else (if a0_0 = 2 then ((spec_l1In.f a0_1 0 31).bind fun t110 => (if t110 = true then (if a0_1 = 24 then (some false) else (if a0_1 = 26 then (some false) else (some (a0_1 != 27)))) else (some false))) else (if a0_0 = 3 then ((spec_l1In.f a0_1 48 126).bind fun t111 => (if t111 = true then (some (a0_1 != 91)) else (some false))) else (if a0_0 = 5 then ((spec_l4Shown.f a0_1).bind fun t112 => (if t112 = true then ((spec_l1In.f a0_2 1 2).bind fun t113 => (some t113)) else (some false))) else (if a0_0 = 4 then ((spec_l1In.f a0_1 64 126).bind fun t114 => (some t114)) else (some true)))))) = some r := h
  clear h
  by_cases c2 : a0_0 = 1
  · rw [if_pos c2] at H
    have c2b0 : (a0_0 == 1) = true := beq_iff_eq.mpr c2
    have c2b1 : (a0_0 != 1) = false := bne_eq_false_iff_eq.mpr c2
    clear c2
    replace H := Option.bind_eq_some_iff.mp H
    obtain ⟨t109, A30, H⟩ := H
    replace H : (some t109) = some r := H
    have A3 := Aside0.mk A30
    clear A30
    obtain rfl := Option.some.inj H
    have hcz4_0 : w.cell? ⟨gp0, 0, none⟩ = some (.int .i64 a0_0) := (blk_cell BK50.out 0).trans rfl
    have hcz4_1 : w.cell? ⟨gp0, 1, none⟩ = some (.int .i64 a0_1) := (blk_cell BK50.out 1).trans rfl
    have hcz4_2 : w.cell? ⟨gp0, 2, none⟩ = some (.int .i64 a0_2) := (blk_cell BK50.out 2).trans rfl
    have hcz4_3 : w.cell? ⟨gp0, 3, none⟩ = some (.bool a0_3) := (blk_cell BK50.out 3).trans rfl
    have hcz4_4 : w.cell? ⟨gp0, 4, none⟩ = some (.slice A0_4 l0_4.length c0_4) := (blk_cell BK50.out 4).trans rfl
    have hfz4_0 := blk_frozen BK50.out 0
    have hfz4_1 := blk_frozen BK50.out 1
    have hfz4_2 := blk_frozen BK50.out 2
    have hfz4_3 := blk_frozen BK50.out 3
    have hfz4_4 := blk_frozen BK50.out 4
    go_enter Tryd.func97, Tryd.ntmps97
    go_wp2_with (first | ((with_reducible refine gate_callee (f := 113) rfl ?_); refine goesL_ (some 13) rfl rfl Tryd.func113 (by kernel_rfl) rfl #[.int .i64 a0_1] rfl (by (try simp only [List.map_toArray, List.map_cons, List.map_nil]); first | done | rfl | (simp only [List.length_drop, List.length_take]; rfl)) ?_; (with_reducible refine (spec_l4Shown.calls a0_1 t109 _ A3.out).mono ?_); rintro e w' ⟨rfl, ⟨nd, rfl⟩⟩; refine ⟨_, rfl, ?_⟩))
    go_ret
    exact ⟨by first | rfl | (simp [errW_none, errW_some] <;> rfl) | (simp [*, errW_none, errW_some] <;> rfl), by repeat (first | (with_reducible first | exact HB.out | apply below_alloc | apply pw_below_drewN | apply below_drew1 | refine below_set ?_ GE50.out) | exact HB.out)⟩
  · rw [if_neg c2] at H
    have c2b0 : (a0_0 == 1) = false := beq_eq_false_iff_ne.mpr c2
    have c2b1 : (a0_0 != 1) = true := bne_iff_ne.mpr c2
    by_cases c5 : a0_0 = 2
    · rw [if_pos c5] at H
      have c5b0 : (a0_0 == 2) = true := beq_iff_eq.mpr c5
      have c5b1 : (a0_0 != 2) = false := bne_eq_false_iff_eq.mpr c5
      clear c5
      replace H := Option.bind_eq_some_iff.mp H
      obtain ⟨t110, A60, H⟩ := H
      replace H : (if t110 = true then (if a0_1 = 24 then (some false) else (if a0_1 = 26 then (some false) else (some (a0_1 != 27)))) else (some false)) = some r := H
      have A6 := Aside0.mk A60
      clear A60
      by_cases c7 : t110 = true
      · subst c7
        have H1 : (if a0_1 = 24 then (some false) else (if a0_1 = 26 then (some false) else (some (a0_1 != 27)))) = some r := by rw [if_pos rfl] at H; exact H
        clear H
        have H := H1
        clear H1
        by_cases c8 : a0_1 = 24
        · rw [if_pos c8] at H
          have c8b0 : (a0_1 == 24) = true := beq_iff_eq.mpr c8
          have c8b1 : (a0_1 != 24) = false := bne_eq_false_iff_eq.mpr c8
          clear c8
          obtain rfl := Option.some.inj H
          have hcz9_0 : w.cell? ⟨gp0, 0, none⟩ = some (.int .i64 a0_0) := (blk_cell BK50.out 0).trans rfl
          have hcz9_1 : w.cell? ⟨gp0, 1, none⟩ = some (.int .i64 a0_1) := (blk_cell BK50.out 1).trans rfl
          have hcz9_2 : w.cell? ⟨gp0, 2, none⟩ = some (.int .i64 a0_2) := (blk_cell BK50.out 2).trans rfl
          have hcz9_3 : w.cell? ⟨gp0, 3, none⟩ = some (.bool a0_3) := (blk_cell BK50.out 3).trans rfl
          have hcz9_4 : w.cell? ⟨gp0, 4, none⟩ = some (.slice A0_4 l0_4.length c0_4) := (blk_cell BK50.out 4).trans rfl
          have hfz9_0 := blk_frozen BK50.out 0
          have hfz9_1 := blk_frozen BK50.out 1
          have hfz9_2 := blk_frozen BK50.out 2
          have hfz9_3 := blk_frozen BK50.out 3
          have hfz9_4 := blk_frozen BK50.out 4
          go_enter Tryd.func97, Tryd.ntmps97
          go_wp2_with (first | ((with_reducible refine gate_callee (f := 48) rfl ?_); refine goesL_ (some 20) rfl rfl Tryd.func48 (by kernel_rfl) rfl #[.int .i64 a0_1, .int .i64 0, .int .i64 31] rfl (by (try simp only [List.map_toArray, List.map_cons, List.map_nil]); first | done | rfl | (simp only [List.length_drop, List.length_take]; rfl)) ?_; (with_reducible refine (spec_l1In.calls a0_1 0 31 true _ A6.out).mono ?_); rintro e w' ⟨rfl, ⟨nd, rfl⟩⟩; refine ⟨_, rfl, ?_⟩))
          go_ret
          exact ⟨by first | rfl | (simp [errW_none, errW_some] <;> rfl) | (simp [*, errW_none, errW_some] <;> rfl), by repeat (first | (with_reducible first | exact HB.out | apply below_alloc | apply pw_below_drewN | apply below_drew1 | refine below_set ?_ GE50.out) | exact HB.out)⟩
        · rw [if_neg c8] at H
          have c8b0 : (a0_1 == 24) = false := beq_eq_false_iff_ne.mpr c8
          have c8b1 : (a0_1 != 24) = true := bne_iff_ne.mpr c8
          by_cases c10 : a0_1 = 26
          · rw [if_pos c10] at H
            have c10b0 : (a0_1 == 26) = true := beq_iff_eq.mpr c10
            have c10b1 : (a0_1 != 26) = false := bne_eq_false_iff_eq.mpr c10
            clear c10
            obtain rfl := Option.some.inj H
            have hcz11_0 : w.cell? ⟨gp0, 0, none⟩ = some (.int .i64 a0_0) := (blk_cell BK50.out 0).trans rfl
            have hcz11_1 : w.cell? ⟨gp0, 1, none⟩ = some (.int .i64 a0_1) := (blk_cell BK50.out 1).trans rfl
            have hcz11_2 : w.cell? ⟨gp0, 2, none⟩ = some (.int .i64 a0_2) := (blk_cell BK50.out 2).trans rfl
            have hcz11_3 : w.cell? ⟨gp0, 3, none⟩ = some (.bool a0_3) := (blk_cell BK50.out 3).trans rfl
            have hcz11_4 : w.cell? ⟨gp0, 4, none⟩ = some (.slice A0_4 l0_4.length c0_4) := (blk_cell BK50.out 4).trans rfl
            have hfz11_0 := blk_frozen BK50.out 0
            have hfz11_1 := blk_frozen BK50.out 1
            have hfz11_2 := blk_frozen BK50.out 2
            have hfz11_3 := blk_frozen BK50.out 3
            have hfz11_4 := blk_frozen BK50.out 4
            go_enter Tryd.func97, Tryd.ntmps97
            go_wp2_with (first | ((with_reducible refine gate_callee (f := 48) rfl ?_); refine goesL_ (some 20) rfl rfl Tryd.func48 (by kernel_rfl) rfl #[.int .i64 a0_1, .int .i64 0, .int .i64 31] rfl (by (try simp only [List.map_toArray, List.map_cons, List.map_nil]); first | done | rfl | (simp only [List.length_drop, List.length_take]; rfl)) ?_; (with_reducible refine (spec_l1In.calls a0_1 0 31 true _ A6.out).mono ?_); rintro e w' ⟨rfl, ⟨nd, rfl⟩⟩; refine ⟨_, rfl, ?_⟩))
            go_ret
            exact ⟨by first | rfl | (simp [errW_none, errW_some] <;> rfl) | (simp [*, errW_none, errW_some] <;> rfl), by repeat (first | (with_reducible first | exact HB.out | apply below_alloc | apply pw_below_drewN | apply below_drew1 | refine below_set ?_ GE50.out) | exact HB.out)⟩
          · rw [if_neg c10] at H
            have c10b0 : (a0_1 == 26) = false := beq_eq_false_iff_ne.mpr c10
            have c10b1 : (a0_1 != 26) = true := bne_iff_ne.mpr c10
            obtain rfl := Option.some.inj H
            have hcz12_0 : w.cell? ⟨gp0, 0, none⟩ = some (.int .i64 a0_0) := (blk_cell BK50.out 0).trans rfl
            have hcz12_1 : w.cell? ⟨gp0, 1, none⟩ = some (.int .i64 a0_1) := (blk_cell BK50.out 1).trans rfl
            have hcz12_2 : w.cell? ⟨gp0, 2, none⟩ = some (.int .i64 a0_2) := (blk_cell BK50.out 2).trans rfl
            have hcz12_3 : w.cell? ⟨gp0, 3, none⟩ = some (.bool a0_3) := (blk_cell BK50.out 3).trans rfl
            have hcz12_4 : w.cell? ⟨gp0, 4, none⟩ = some (.slice A0_4 l0_4.length c0_4) := (blk_cell BK50.out 4).trans rfl
            have hfz12_0 := blk_frozen BK50.out 0
            have hfz12_1 := blk_frozen BK50.out 1
            have hfz12_2 := blk_frozen BK50.out 2
            have hfz12_3 := blk_frozen BK50.out 3
            have hfz12_4 := blk_frozen BK50.out 4
            go_enter Tryd.func97, Tryd.ntmps97
            go_wp2_with (first | ((with_reducible refine gate_callee (f := 48) rfl ?_); refine goesL_ (some 20) rfl rfl Tryd.func48 (by kernel_rfl) rfl #[.int .i64 a0_1, .int .i64 0, .int .i64 31] rfl (by (try simp only [List.map_toArray, List.map_cons, List.map_nil]); first | done | rfl | (simp only [List.length_drop, List.length_take]; rfl)) ?_; (with_reducible refine (spec_l1In.calls a0_1 0 31 true _ A6.out).mono ?_); rintro e w' ⟨rfl, ⟨nd, rfl⟩⟩; refine ⟨_, rfl, ?_⟩))
            go_ret
            exact ⟨by first | rfl | (simp [errW_none, errW_some] <;> rfl) | (simp [*, errW_none, errW_some] <;> rfl), by repeat (first | (with_reducible first | exact HB.out | apply below_alloc | apply pw_below_drewN | apply below_drew1 | refine below_set ?_ GE50.out) | exact HB.out)⟩
      · replace c7 := Bool.eq_false_iff.mpr c7
        subst c7
        have H1 : (some false) = some r := by rw [if_neg (show ¬ (false = true) by decide)] at H; exact H
        clear H
        have H := H1
        clear H1
        obtain rfl := Option.some.inj H
        have hcz13_0 : w.cell? ⟨gp0, 0, none⟩ = some (.int .i64 a0_0) := (blk_cell BK50.out 0).trans rfl
        have hcz13_1 : w.cell? ⟨gp0, 1, none⟩ = some (.int .i64 a0_1) := (blk_cell BK50.out 1).trans rfl
        have hcz13_2 : w.cell? ⟨gp0, 2, none⟩ = some (.int .i64 a0_2) := (blk_cell BK50.out 2).trans rfl
        have hcz13_3 : w.cell? ⟨gp0, 3, none⟩ = some (.bool a0_3) := (blk_cell BK50.out 3).trans rfl
        have hcz13_4 : w.cell? ⟨gp0, 4, none⟩ = some (.slice A0_4 l0_4.length c0_4) := (blk_cell BK50.out 4).trans rfl
        have hfz13_0 := blk_frozen BK50.out 0
        have hfz13_1 := blk_frozen BK50.out 1
        have hfz13_2 := blk_frozen BK50.out 2
        have hfz13_3 := blk_frozen BK50.out 3
        have hfz13_4 := blk_frozen BK50.out 4
        go_enter Tryd.func97, Tryd.ntmps97
        go_wp2_with (first | ((with_reducible refine gate_callee (f := 48) rfl ?_); refine goesL_ (some 20) rfl rfl Tryd.func48 (by kernel_rfl) rfl #[.int .i64 a0_1, .int .i64 0, .int .i64 31] rfl (by (try simp only [List.map_toArray, List.map_cons, List.map_nil]); first | done | rfl | (simp only [List.length_drop, List.length_take]; rfl)) ?_; (with_reducible refine (spec_l1In.calls a0_1 0 31 false _ A6.out).mono ?_); rintro e w' ⟨rfl, ⟨nd, rfl⟩⟩; refine ⟨_, rfl, ?_⟩))
        go_ret
        exact ⟨by first | rfl | (simp [errW_none, errW_some] <;> rfl) | (simp [*, errW_none, errW_some] <;> rfl), by repeat (first | (with_reducible first | exact HB.out | apply below_alloc | apply pw_below_drewN | apply below_drew1 | refine below_set ?_ GE50.out) | exact HB.out)⟩
    · rw [if_neg c5] at H
      have c5b0 : (a0_0 == 2) = false := beq_eq_false_iff_ne.mpr c5
      have c5b1 : (a0_0 != 2) = true := bne_iff_ne.mpr c5
      by_cases c14 : a0_0 = 3
      · rw [if_pos c14] at H
        have c14b0 : (a0_0 == 3) = true := beq_iff_eq.mpr c14
        have c14b1 : (a0_0 != 3) = false := bne_eq_false_iff_eq.mpr c14
        clear c14
        replace H := Option.bind_eq_some_iff.mp H
        obtain ⟨t111, A150, H⟩ := H
        replace H : (if t111 = true then (some (a0_1 != 91)) else (some false)) = some r := H
        have A15 := Aside0.mk A150
        clear A150
        by_cases c16 : t111 = true
        · subst c16
          have H1 : (some (a0_1 != 91)) = some r := by rw [if_pos rfl] at H; exact H
          clear H
          have H := H1
          clear H1
          obtain rfl := Option.some.inj H
          have hcz17_0 : w.cell? ⟨gp0, 0, none⟩ = some (.int .i64 a0_0) := (blk_cell BK50.out 0).trans rfl
          have hcz17_1 : w.cell? ⟨gp0, 1, none⟩ = some (.int .i64 a0_1) := (blk_cell BK50.out 1).trans rfl
          have hcz17_2 : w.cell? ⟨gp0, 2, none⟩ = some (.int .i64 a0_2) := (blk_cell BK50.out 2).trans rfl
          have hcz17_3 : w.cell? ⟨gp0, 3, none⟩ = some (.bool a0_3) := (blk_cell BK50.out 3).trans rfl
          have hcz17_4 : w.cell? ⟨gp0, 4, none⟩ = some (.slice A0_4 l0_4.length c0_4) := (blk_cell BK50.out 4).trans rfl
          have hfz17_0 := blk_frozen BK50.out 0
          have hfz17_1 := blk_frozen BK50.out 1
          have hfz17_2 := blk_frozen BK50.out 2
          have hfz17_3 := blk_frozen BK50.out 3
          have hfz17_4 := blk_frozen BK50.out 4
          go_enter Tryd.func97, Tryd.ntmps97
          go_wp2_with (first | ((with_reducible refine gate_callee (f := 48) rfl ?_); refine goesL_ (some 48) rfl rfl Tryd.func48 (by kernel_rfl) rfl #[.int .i64 a0_1, .int .i64 48, .int .i64 126] rfl (by (try simp only [List.map_toArray, List.map_cons, List.map_nil]); first | done | rfl | (simp only [List.length_drop, List.length_take]; rfl)) ?_; (with_reducible refine (spec_l1In.calls a0_1 48 126 true _ A15.out).mono ?_); rintro e w' ⟨rfl, ⟨nd, rfl⟩⟩; refine ⟨_, rfl, ?_⟩))
          go_ret
          exact ⟨by first | rfl | (simp [errW_none, errW_some] <;> rfl) | (simp [*, errW_none, errW_some] <;> rfl), by repeat (first | (with_reducible first | exact HB.out | apply below_alloc | apply pw_below_drewN | apply below_drew1 | refine below_set ?_ GE50.out) | exact HB.out)⟩
        · replace c16 := Bool.eq_false_iff.mpr c16
          subst c16
          have H1 : (some false) = some r := by rw [if_neg (show ¬ (false = true) by decide)] at H; exact H
          clear H
          have H := H1
          clear H1
          obtain rfl := Option.some.inj H
          have hcz18_0 : w.cell? ⟨gp0, 0, none⟩ = some (.int .i64 a0_0) := (blk_cell BK50.out 0).trans rfl
          have hcz18_1 : w.cell? ⟨gp0, 1, none⟩ = some (.int .i64 a0_1) := (blk_cell BK50.out 1).trans rfl
          have hcz18_2 : w.cell? ⟨gp0, 2, none⟩ = some (.int .i64 a0_2) := (blk_cell BK50.out 2).trans rfl
          have hcz18_3 : w.cell? ⟨gp0, 3, none⟩ = some (.bool a0_3) := (blk_cell BK50.out 3).trans rfl
          have hcz18_4 : w.cell? ⟨gp0, 4, none⟩ = some (.slice A0_4 l0_4.length c0_4) := (blk_cell BK50.out 4).trans rfl
          have hfz18_0 := blk_frozen BK50.out 0
          have hfz18_1 := blk_frozen BK50.out 1
          have hfz18_2 := blk_frozen BK50.out 2
          have hfz18_3 := blk_frozen BK50.out 3
          have hfz18_4 := blk_frozen BK50.out 4
          go_enter Tryd.func97, Tryd.ntmps97
          go_wp2_with (first | ((with_reducible refine gate_callee (f := 48) rfl ?_); refine goesL_ (some 48) rfl rfl Tryd.func48 (by kernel_rfl) rfl #[.int .i64 a0_1, .int .i64 48, .int .i64 126] rfl (by (try simp only [List.map_toArray, List.map_cons, List.map_nil]); first | done | rfl | (simp only [List.length_drop, List.length_take]; rfl)) ?_; (with_reducible refine (spec_l1In.calls a0_1 48 126 false _ A15.out).mono ?_); rintro e w' ⟨rfl, ⟨nd, rfl⟩⟩; refine ⟨_, rfl, ?_⟩))
          go_ret
          exact ⟨by first | rfl | (simp [errW_none, errW_some] <;> rfl) | (simp [*, errW_none, errW_some] <;> rfl), by repeat (first | (with_reducible first | exact HB.out | apply below_alloc | apply pw_below_drewN | apply below_drew1 | refine below_set ?_ GE50.out) | exact HB.out)⟩
      · rw [if_neg c14] at H
        have c14b0 : (a0_0 == 3) = false := beq_eq_false_iff_ne.mpr c14
        have c14b1 : (a0_0 != 3) = true := bne_iff_ne.mpr c14
        by_cases c19 : a0_0 = 5
        · rw [if_pos c19] at H
          have c19b0 : (a0_0 == 5) = true := beq_iff_eq.mpr c19
          have c19b1 : (a0_0 != 5) = false := bne_eq_false_iff_eq.mpr c19
          clear c19
          replace H := Option.bind_eq_some_iff.mp H
          obtain ⟨t112, A200, H⟩ := H
          replace H : (if t112 = true then ((spec_l1In.f a0_2 1 2).bind fun t113 => (some t113)) else (some false)) = some r := H
          have A20 := Aside0.mk A200
          clear A200
          by_cases c21 : t112 = true
          · subst c21
            have H1 : ((spec_l1In.f a0_2 1 2).bind fun t113 => (some t113)) = some r := by rw [if_pos rfl] at H; exact H
            clear H
            have H := H1
            clear H1
            replace H := Option.bind_eq_some_iff.mp H
            obtain ⟨t113, A220, H⟩ := H
            replace H : (some t113) = some r := H
            have A22 := Aside0.mk A220
            clear A220
            obtain rfl := Option.some.inj H
            have hcz23_0 : w.cell? ⟨gp0, 0, none⟩ = some (.int .i64 a0_0) := (blk_cell BK50.out 0).trans rfl
            have hcz23_1 : w.cell? ⟨gp0, 1, none⟩ = some (.int .i64 a0_1) := (blk_cell BK50.out 1).trans rfl
            have hcz23_2 : w.cell? ⟨gp0, 2, none⟩ = some (.int .i64 a0_2) := (blk_cell BK50.out 2).trans rfl
            have hcz23_3 : w.cell? ⟨gp0, 3, none⟩ = some (.bool a0_3) := (blk_cell BK50.out 3).trans rfl
            have hcz23_4 : w.cell? ⟨gp0, 4, none⟩ = some (.slice A0_4 l0_4.length c0_4) := (blk_cell BK50.out 4).trans rfl
            have hfz23_0 := blk_frozen BK50.out 0
            have hfz23_1 := blk_frozen BK50.out 1
            have hfz23_2 := blk_frozen BK50.out 2
            have hfz23_3 := blk_frozen BK50.out 3
            have hfz23_4 := blk_frozen BK50.out 4
            go_enter Tryd.func97, Tryd.ntmps97
            go_wp2_with (first | ((with_reducible refine gate_callee (f := 113) rfl ?_); refine goesL_ (some 62) rfl rfl Tryd.func113 (by kernel_rfl) rfl #[.int .i64 a0_1] rfl (by (try simp only [List.map_toArray, List.map_cons, List.map_nil]); first | done | rfl | (simp only [List.length_drop, List.length_take]; rfl)) ?_; (with_reducible refine (spec_l4Shown.calls a0_1 true _ A20.out).mono ?_); rintro e w' ⟨rfl, ⟨nd, rfl⟩⟩; refine ⟨_, rfl, ?_⟩) | (go_at_call 48; (with_reducible refine (spec_l1In.calls a0_2 1 2 t113 _ A22.out).mono ?_); rintro e w' ⟨rfl, ⟨nd, rfl⟩⟩))
            go_ret
            exact ⟨by first | rfl | (simp [errW_none, errW_some] <;> rfl) | (simp [*, errW_none, errW_some] <;> rfl), by repeat (first | (with_reducible first | exact HB.out | apply below_alloc | apply pw_below_drewN | apply below_drew1 | refine below_set ?_ GE50.out) | exact HB.out)⟩
          · replace c21 := Bool.eq_false_iff.mpr c21
            subst c21
            have H1 : (some false) = some r := by rw [if_neg (show ¬ (false = true) by decide)] at H; exact H
            clear H
            have H := H1
            clear H1
            obtain rfl := Option.some.inj H
            have hcz24_0 : w.cell? ⟨gp0, 0, none⟩ = some (.int .i64 a0_0) := (blk_cell BK50.out 0).trans rfl
            have hcz24_1 : w.cell? ⟨gp0, 1, none⟩ = some (.int .i64 a0_1) := (blk_cell BK50.out 1).trans rfl
            have hcz24_2 : w.cell? ⟨gp0, 2, none⟩ = some (.int .i64 a0_2) := (blk_cell BK50.out 2).trans rfl
            have hcz24_3 : w.cell? ⟨gp0, 3, none⟩ = some (.bool a0_3) := (blk_cell BK50.out 3).trans rfl
            have hcz24_4 : w.cell? ⟨gp0, 4, none⟩ = some (.slice A0_4 l0_4.length c0_4) := (blk_cell BK50.out 4).trans rfl
            have hfz24_0 := blk_frozen BK50.out 0
            have hfz24_1 := blk_frozen BK50.out 1
            have hfz24_2 := blk_frozen BK50.out 2
            have hfz24_3 := blk_frozen BK50.out 3
            have hfz24_4 := blk_frozen BK50.out 4
            go_enter Tryd.func97, Tryd.ntmps97
            go_wp2_with (first | ((with_reducible refine gate_callee (f := 113) rfl ?_); refine goesL_ (some 62) rfl rfl Tryd.func113 (by kernel_rfl) rfl #[.int .i64 a0_1] rfl (by (try simp only [List.map_toArray, List.map_cons, List.map_nil]); first | done | rfl | (simp only [List.length_drop, List.length_take]; rfl)) ?_; (with_reducible refine (spec_l4Shown.calls a0_1 false _ A20.out).mono ?_); rintro e w' ⟨rfl, ⟨nd, rfl⟩⟩; refine ⟨_, rfl, ?_⟩))
            go_ret
            exact ⟨by first | rfl | (simp [errW_none, errW_some] <;> rfl) | (simp [*, errW_none, errW_some] <;> rfl), by repeat (first | (with_reducible first | exact HB.out | apply below_alloc | apply pw_below_drewN | apply below_drew1 | refine below_set ?_ GE50.out) | exact HB.out)⟩
        · rw [if_neg c19] at H
          have c19b0 : (a0_0 == 5) = false := beq_eq_false_iff_ne.mpr c19
          have c19b1 : (a0_0 != 5) = true := bne_iff_ne.mpr c19
          by_cases c25 : a0_0 = 4
          · rw [if_pos c25] at H
            have c25b0 : (a0_0 == 4) = true := beq_iff_eq.mpr c25
            have c25b1 : (a0_0 != 4) = false := bne_eq_false_iff_eq.mpr c25
            clear c25
            replace H := Option.bind_eq_some_iff.mp H
            obtain ⟨t114, A260, H⟩ := H
            replace H : (some t114) = some r := H
            have A26 := Aside0.mk A260
            clear A260
            obtain rfl := Option.some.inj H
            have hcz27_0 : w.cell? ⟨gp0, 0, none⟩ = some (.int .i64 a0_0) := (blk_cell BK50.out 0).trans rfl
            have hcz27_1 : w.cell? ⟨gp0, 1, none⟩ = some (.int .i64 a0_1) := (blk_cell BK50.out 1).trans rfl
            have hcz27_2 : w.cell? ⟨gp0, 2, none⟩ = some (.int .i64 a0_2) := (blk_cell BK50.out 2).trans rfl
            have hcz27_3 : w.cell? ⟨gp0, 3, none⟩ = some (.bool a0_3) := (blk_cell BK50.out 3).trans rfl
            have hcz27_4 : w.cell? ⟨gp0, 4, none⟩ = some (.slice A0_4 l0_4.length c0_4) := (blk_cell BK50.out 4).trans rfl
            have hfz27_0 := blk_frozen BK50.out 0
            have hfz27_1 := blk_frozen BK50.out 1
            have hfz27_2 := blk_frozen BK50.out 2
            have hfz27_3 := blk_frozen BK50.out 3
            have hfz27_4 := blk_frozen BK50.out 4
            go_enter Tryd.func97, Tryd.ntmps97
            go_wp2_with (first | ((with_reducible refine gate_callee (f := 48) rfl ?_); refine goesL_ (some 76) rfl rfl Tryd.func48 (by kernel_rfl) rfl #[.int .i64 a0_1, .int .i64 64, .int .i64 126] rfl (by (try simp only [List.map_toArray, List.map_cons, List.map_nil]); first | done | rfl | (simp only [List.length_drop, List.length_take]; rfl)) ?_; (with_reducible refine (spec_l1In.calls a0_1 64 126 t114 _ A26.out).mono ?_); rintro e w' ⟨rfl, ⟨nd, rfl⟩⟩; refine ⟨_, rfl, ?_⟩))
            go_ret
            exact ⟨by first | rfl | (simp [errW_none, errW_some] <;> rfl) | (simp [*, errW_none, errW_some] <;> rfl), by repeat (first | (with_reducible first | exact HB.out | apply below_alloc | apply pw_below_drewN | apply below_drew1 | refine below_set ?_ GE50.out) | exact HB.out)⟩
          · rw [if_neg c25] at H
            have c25b0 : (a0_0 == 4) = false := beq_eq_false_iff_ne.mpr c25
            have c25b1 : (a0_0 != 4) = true := bne_iff_ne.mpr c25
            obtain rfl := Option.some.inj H
            have hcz28_0 : w.cell? ⟨gp0, 0, none⟩ = some (.int .i64 a0_0) := (blk_cell BK50.out 0).trans rfl
            have hcz28_1 : w.cell? ⟨gp0, 1, none⟩ = some (.int .i64 a0_1) := (blk_cell BK50.out 1).trans rfl
            have hcz28_2 : w.cell? ⟨gp0, 2, none⟩ = some (.int .i64 a0_2) := (blk_cell BK50.out 2).trans rfl
            have hcz28_3 : w.cell? ⟨gp0, 3, none⟩ = some (.bool a0_3) := (blk_cell BK50.out 3).trans rfl
            have hcz28_4 : w.cell? ⟨gp0, 4, none⟩ = some (.slice A0_4 l0_4.length c0_4) := (blk_cell BK50.out 4).trans rfl
            have hfz28_0 := blk_frozen BK50.out 0
            have hfz28_1 := blk_frozen BK50.out 1
            have hfz28_2 := blk_frozen BK50.out 2
            have hfz28_3 := blk_frozen BK50.out 3
            have hfz28_4 := blk_frozen BK50.out 4
            go_enter Tryd.func97, Tryd.ntmps97
            go_wp2
            go_ret
            exact ⟨by first | rfl | (simp [errW_none, errW_some] <;> rfl) | (simp [*, errW_none, errW_some] <;> rfl), by repeat (first | (with_reducible first | exact HB.out | apply below_alloc | apply pw_below_drewN | apply below_drew1 | refine below_set ?_ GE50.out) | exact HB.out)⟩

/-! ### spec_l4Params: function 98 -/
mutual
def spec_l4Params.j0 : Nat → List Int → Bool → Option (Int)
  | 0, _, _ => none
  | k + 1, x0, x11 => if x11 = true then (some 2) else (spec_l4Params.l0 k x0 0)
def spec_l4Params.l0 : Nat → List Int → Int → Option (Int)
  | 0, _, _ => none
  | k + 1, x0, x3 => if x3 < (x0.length : Int) then (if 0 ≤ x3 then ((spec_l1In.f (rd x0 x3) 0 999).bind fun t116 => (if t116 = true then (spec_l4Params.l0 k x0 (wrap64 (x3 + 1))) else (some 3))) else (none)) else (some 0)
end
def spec_l4Params.f (k : Nat) (l0 : List Int) : Option (Int) := if (l0.length : Int) < 1 then (spec_l4Params.j0 k l0 true) else (spec_l4Params.j0 k l0 (decide ((l0.length : Int) > 6)))
theorem spec_l4Params.mono_l : ∀ k, (∀ y0 y1, LeO (spec_l4Params.j0 k y0 y1) (spec_l4Params.j0 (k + 1) y0 y1)) ∧ (∀ y0 y1, LeO (spec_l4Params.l0 k y0 y1) (spec_l4Params.l0 (k + 1) y0 y1))
  | 0 => ⟨fun _ _ r h => by simp [spec_l4Params.j0] at h, fun _ _ r h => by simp [spec_l4Params.l0] at h⟩
  | k + 1 => by
    obtain ⟨ih0, ih1⟩ := spec_l4Params.mono_l k
    refine ⟨?_, ?_⟩
    · intro y0 y1
      unfold spec_l4Params.j0
      repeat' first
      | (with_reducible exact ih0 _ _)
      | (with_reducible exact ih1 _ _)
      | (with_reducible exact LeO.refl _)
      | (with_reducible exact LeO.none _)
      | (with_reducible refine LeO.ite ?_ ?_)
      | (with_reducible refine LeO.bind ?_ (fun _ => ?_))
      | exact ih0 _ _
      | exact ih1 _ _
      | exact LeO.none _
      | refine LeO.ite ?_ ?_
      | refine LeO.bind ?_ (fun _ => ?_)
    · intro y0 y1
      unfold spec_l4Params.l0
      repeat' first
      | (with_reducible exact ih0 _ _)
      | (with_reducible exact ih1 _ _)
      | (with_reducible exact LeO.refl _)
      | (with_reducible exact LeO.none _)
      | (with_reducible refine LeO.ite ?_ ?_)
      | (with_reducible refine LeO.bind ?_ (fun _ => ?_))
      | exact ih0 _ _
      | exact ih1 _ _
      | exact LeO.none _
      | refine LeO.ite ?_ ?_
      | refine LeO.bind ?_ (fun _ => ?_)
theorem spec_l4Params.mono : ∀ a0 k, LeO (spec_l4Params.f k a0) (spec_l4Params.f (k + 1) a0) := by
  intro a0 k
  obtain ⟨ih0, ih1⟩ := spec_l4Params.mono_l k
  unfold spec_l4Params.f
  repeat' first
      | (with_reducible exact ih0 _ _)
      | (with_reducible exact ih1 _ _)
      | (with_reducible exact LeO.refl _)
      | (with_reducible exact LeO.none _)
      | (with_reducible refine LeO.ite ?_ ?_)
      | (with_reducible refine LeO.bind ?_ (fun _ => ?_))
      | exact ih0 _ _
      | exact ih1 _ _
      | exact LeO.none _
      | refine LeO.ite ?_ ?_
      | refine LeO.bind ?_ (fun _ => ?_)
set_option maxHeartbeats 8000000 in
set_option maxRecDepth 100000 in
theorem spec_l4Params.calls (k : Nat) (A0 : Option Addr) (c0 : Nat) (l0 : List Int) (r : Int) (w : World) (hr0 : Kd.C (Kd.int .i64) w A0 l0.length l0) (hc0 : l0.length ≤ c0) (h : spec_l4Params.f k l0 = some r) :
    Calls Tryd.prog 98 #[.slice A0 l0.length c0] w fun e w' => e = .returned (.int .i64 r) ∧ Drawn0 w w' := by
  have HR0 := Aside0.mk hr0
  have HC0 := Aside0.mk hc0
  clear hr0 hc0
  have H : (if (l0.length : Int) < 1 then (spec_l4Params.j0 k l0 true) else (spec_l4Params.j0 k l0 (decide ((l0.length : Int) > 6)))) = some r := h
  clear h
  have HC2 := Aside0.mk H
  clear H
  go_enter Tryd.func98, Tryd.ntmps98
  go_upto_region 1 with (fail)
  go_cut [11] (fun v11 wc => ∃ (kq : Nat) (x11_1 : Bool), v11 = .bool x11_1 ∧ Aside0 (spec_l4Params.j0 kq l0 x11_1 = some r) ∧ Aside0 (kq ≤ k) ∧ Drawn0 w wc)
  case first =>
    have H := HC2.out
    clear HC2
    by_cases c3 : (l0.length : Int) < 1
    · rw [if_pos c3] at H
      have c3b0 : decide ((l0.length : Int) < 1) = true := decide_eq_true c3
      have c3b1 : decide (l0.length < 1) = true := decide_eq_true (by omega)
      clear c3
      (first | rw [c3b0] | (simp only [i64_w, i32_w]; rw [c3b0]) | skip)
      have H' := Aside0.mk H
      clear H
      go_wp2
      go_meet
      case rel => exact ⟨_, (true), (by first | rfl | (simp; done) | (simp [*]; done)), H', ⟨by first | omega | exact Nat.le_refl _⟩, by repeat (first | exact Drawn0.refl _ | apply Drawn0.step)⟩
    · rw [if_neg c3] at H
      have c3b0 : decide ((l0.length : Int) < 1) = false := decide_eq_false c3
      have c3b1 : decide (l0.length < 1) = false := decide_eq_false (by omega)
      clear c3
      (first | rw [c3b0] | (simp only [i64_w, i32_w]; rw [c3b0]) | skip)
      have H' := Aside0.mk H
      clear H
      go_wp2
      go_meet
      case rel => exact ⟨_, (decide ((l0.length : Int) > 6)), (by first | rfl | (simp; done) | (simp [*]; done)), H', ⟨by first | omega | exact Nat.le_refl _⟩, by repeat (first | exact Drawn0.refl _ | apply Drawn0.step)⟩
  case rest =>
    clear HC2
    try clear p2
    try clear c3
    try clear c3b0
    try clear c3b1
    obtain ⟨kq, x11_1, rfl, HA, HJ1, ⟨mc1, rfl⟩⟩ := hcut
    cases kq with
    | zero => exact absurd HA.out (by simp [spec_l4Params.j0])
    | succ kj1 =>
      have H := HA.out
      clear HA
      simp only [spec_l4Params.j0] at H
      by_cases c4 : x11_1 = true
      · subst c4
        have H1 : (some 2) = some r := by rw [if_pos rfl] at H; exact H
        clear H
        have H := H1
        clear H1
        obtain rfl := Option.some.inj H
        go_wp2
        go_ret
        exact ⟨by first | rfl | (simp; done) | (simp [*]; done), by repeat (first | exact Drawn0.refl _ | apply Drawn0.step)⟩
      · replace c4 := Bool.eq_false_iff.mpr c4
        subst c4
        have H1 : (spec_l4Params.l0 kj1 l0 0) = some r := by rw [if_neg (show ¬ (false = true) by decide)] at H; exact H
        clear H
        have H := H1
        clear H1
        have H' := Aside0.mk H
        clear H
        go_wp2
        go_loopg [3] kj1 (fun kq v3 w' => ∃ (x3_2 : Int), v3 = .int .i64 x3_2 ∧ Aside0 (spec_l4Params.l0 kq l0 x3_2 = some r) ∧ Aside0 (kq ≤ kj1) ∧ Drawn0 w w')
        case atStart => exact ⟨(0), (by first | rfl | (simp; done) | (simp [*]; done)), H', ⟨Nat.le_refl _⟩, by repeat (first | exact Drawn0.refl _ | apply Drawn0.step)⟩
        case round =>
          clear H'
          try clear c1
          try clear p2
          try clear c3
          try clear c3b0
          try clear c3b1
          try clear c4
          try clear p2
          obtain ⟨x3_2, rfl, HA, HK2, ⟨m2, rfl⟩⟩ := hrel
          cases gk with
          | zero => exact absurd HA.out (by simp [spec_l4Params.l0])
          | succ k2 =>
            have H := HA.out
            clear HA
            simp only [spec_l4Params.l0] at H
            by_cases c5 : x3_2 < (l0.length : Int)
            · rw [if_pos c5] at H
              have c5b0 : decide (x3_2 < (l0.length : Int)) = true := decide_eq_true c5
              clear c5
              by_cases c6 : 0 ≤ x3_2
              · rw [if_pos c6] at H
                have c6b0 : decide (0 ≤ x3_2) = true := decide_eq_true c6
                clear c6
                replace H := Option.bind_eq_some_iff.mp H
                obtain ⟨t116, A70, H⟩ := H
                replace H : (if t116 = true then (spec_l4Params.l0 k2 l0 (wrap64 (x3_2 + 1))) else (some 3)) = some r := H
                have A7 := Aside0.mk A70
                clear A70
                by_cases c8 : t116 = true
                · subst c8
                  have H1 : (spec_l4Params.l0 k2 l0 (wrap64 (x3_2 + 1))) = some r := by rw [if_pos rfl] at H; exact H
                  clear H
                  have H := H1
                  clear H1
                  have H' := Aside0.mk H
                  clear H
                  have p115 : 0 ≤ (x3_2 : Int) := of_decide_eq_true (by first | (with_reducible assumption) | assumption)
                  have q115 : x3_2 < (l0.length : Int) := of_decide_eq_true (by first | (with_reducible assumption) | assumption)
                  obtain ⟨ad115, e115, hx115_0⟩ := Kd.at_int HR0.out x3_2 p115 q115
                  cases e115
                  replace p115 := eq_true p115
                  replace q115 := eq_true q115
                  go_wp2_with (first | ((with_reducible refine gate_callee (f := 48) rfl ?_); refine goesL_ (some 22) rfl rfl Tryd.func48 (by kernel_rfl) rfl #[.int .i64 (rd l0 x3_2), .int .i64 0, .int .i64 999] rfl (by (try simp only [List.map_toArray, List.map_cons, List.map_nil]); first | done | rfl | (simp only [List.length_drop, List.length_take]; rfl)) ?_; (with_reducible refine (spec_l1In.calls (rd l0 x3_2) 0 999 true _ A7.out).mono ?_); rintro e w' ⟨rfl, ⟨nd, rfl⟩⟩; refine ⟨_, rfl, ?_⟩))
                  go_roundg k2
                  case measure => have := HJ1.out; have := HK2.out; omega
                  case rel => exact ⟨(wrap64 (x3_2 + 1)), (by first | rfl | (simp; done) | (simp [*]; done)), H', ⟨by have := HJ1.out; have := HK2.out; omega⟩, by repeat (first | exact Drawn0.refl _ | apply Drawn0.step)⟩
                · replace c8 := Bool.eq_false_iff.mpr c8
                  subst c8
                  have H1 : (some 3) = some r := by rw [if_neg (show ¬ (false = true) by decide)] at H; exact H
                  clear H
                  have H := H1
                  clear H1
                  obtain rfl := Option.some.inj H
                  have p115 : 0 ≤ (x3_2 : Int) := of_decide_eq_true (by first | (with_reducible assumption) | assumption)
                  have q115 : x3_2 < (l0.length : Int) := of_decide_eq_true (by first | (with_reducible assumption) | assumption)
                  obtain ⟨ad115, e115, hx115_0⟩ := Kd.at_int HR0.out x3_2 p115 q115
                  cases e115
                  replace p115 := eq_true p115
                  replace q115 := eq_true q115
                  go_wp2_with (first | ((with_reducible refine gate_callee (f := 48) rfl ?_); refine goesL_ (some 22) rfl rfl Tryd.func48 (by kernel_rfl) rfl #[.int .i64 (rd l0 x3_2), .int .i64 0, .int .i64 999] rfl (by (try simp only [List.map_toArray, List.map_cons, List.map_nil]); first | done | rfl | (simp only [List.length_drop, List.length_take]; rfl)) ?_; (with_reducible refine (spec_l1In.calls (rd l0 x3_2) 0 999 false _ A7.out).mono ?_); rintro e w' ⟨rfl, ⟨nd, rfl⟩⟩; refine ⟨_, rfl, ?_⟩))
                  go_ret
                  exact ⟨by first | rfl | (simp; done) | (simp [*]; done), by repeat (first | exact Drawn0.refl _ | apply Drawn0.step)⟩
              · rw [if_neg c6] at H
                exact absurd H (by simp)
            · rw [if_neg c5] at H
              have c5b0 : decide (x3_2 < (l0.length : Int)) = false := decide_eq_false c5
              clear c5
              obtain rfl := Option.some.inj H
              go_wp2
              go_ret
              exact ⟨by first | rfl | (simp; done) | (simp [*]; done), by repeat (first | exact Drawn0.refl _ | apply Drawn0.step)⟩

/-! ### spec_l4Action: function 77 -/
def spec_l4Action.f (k : Nat) (a0_0 : Int) (a0_1 : Int) (a0_2 : Int) (a0_3 : Bool) (l0_4 : List Int) : Option (Int) := (spec_l4Form.f a0_0 a0_1 a0_2 a0_3 l0_4).bind fun t117 => (if t117 = true then ((spec_l4Char.f a0_0 a0_1 a0_2 a0_3 l0_4).bind fun t118 => (if t118 = true then (if a0_0 = 4 then ((spec_l4Params.f k l0_4).bind fun t119 => (some t119)) else (some 0)) else (some 3))) else (some 1))
theorem spec_l4Action.mono : ∀ a0 a1 a2 a3 a4 k, LeO (spec_l4Action.f k a0 a1 a2 a3 a4) (spec_l4Action.f (k + 1) a0 a1 a2 a3 a4) := by
  intro a0 a1 a2 a3 a4 k
  unfold spec_l4Action.f
  repeat' first
      | (with_reducible exact spec_l4Params.mono _ _)
      | (with_reducible exact LeO.refl _)
      | (with_reducible exact LeO.none _)
      | (with_reducible refine LeO.ite ?_ ?_)
      | (with_reducible refine LeO.bind ?_ (fun _ => ?_))
      | exact spec_l4Params.mono _ _
      | exact LeO.none _
      | refine LeO.ite ?_ ?_
      | refine LeO.bind ?_ (fun _ => ?_)
set_option maxHeartbeats 8000000 in
set_option maxRecDepth 100000 in
theorem spec_l4Action.calls (k : Nat) (gp0 : Nat) (a0_0 : Int) (a0_1 : Int) (a0_2 : Int) (a0_3 : Bool) (A0_4 : Option Addr) (c0_4 : Nat) (l0_4 : List Int) (r : Int) (w : World) (hp0 : w.heap[gp0]? = some (.cells #[.int .i64 a0_0, .int .i64 a0_1, .int .i64 a0_2, .bool a0_3, .slice A0_4 l0_4.length c0_4] 65 (0, 0))) (hr0_4 : Kd.C (Kd.int .i64) w A0_4 l0_4.length l0_4) (hc0_4 : l0_4.length ≤ c0_4) (h : spec_l4Action.f k a0_0 a0_1 a0_2 a0_3 l0_4 = some r) :
    Calls Tryd.prog 77 #[.pointer (some ⟨gp0, 0, none⟩)] w fun e w' => e = .returned (.int .i64 r) ∧ Below w.heap.size w w' := by
  have HR0_4 := Aside0.mk hr0_4
  have HC0_4 := Aside0.mk hc0_4
  clear hr0_4 hc0_4
  have BK50 := Aside0.mk hp0
  clear hp0
  have HB := Aside0.mk (Below.refl w.heap.size w)
  have H : ((spec_l4Form.f a0_0 a0_1 a0_2 a0_3 l0_4).bind fun t117 => (if t117 = true then ((spec_l4Char.f a0_0 a0_1 a0_2 a0_3 l0_4).bind fun t118 => (if t118 = true then (if a0_0 = 4 then ((spec_l4Params.f k l0_4).bind fun t119 => (some t119)) else (some 0)) else (some 3))) else (some 1))) = some r := h
  clear h
  replace H := Option.bind_eq_some_iff.mp H
  obtain ⟨t117, A20, H⟩ := H
  replace H : (if t117 = true then ((spec_l4Char.f a0_0 a0_1 a0_2 a0_3 l0_4).bind fun t118 => (if t118 = true then (if a0_0 = 4 then ((spec_l4Params.f k l0_4).bind fun t119 => (some t119)) else (some 0)) else (some 3))) else (some 1)) = some r := H
  have A2 := Aside0.mk A20
  clear A20
  by_cases c3 : t117 = true
  · subst c3
    have H1 : ((spec_l4Char.f a0_0 a0_1 a0_2 a0_3 l0_4).bind fun t118 => (if t118 = true then (if a0_0 = 4 then ((spec_l4Params.f k l0_4).bind fun t119 => (some t119)) else (some 0)) else (some 3))) = some r := by rw [if_pos rfl] at H; exact H
    clear H
    have H := H1
    clear H1
    replace H := Option.bind_eq_some_iff.mp H
    obtain ⟨t118, A40, H⟩ := H
    replace H : (if t118 = true then (if a0_0 = 4 then ((spec_l4Params.f k l0_4).bind fun t119 => (some t119)) else (some 0)) else (some 3)) = some r := H
    have A4 := Aside0.mk A40
    clear A40
    by_cases c5 : t118 = true
    · subst c5
      have H1 : (if a0_0 = 4 then ((spec_l4Params.f k l0_4).bind fun t119 => (some t119)) else (some 0)) = some r := by rw [if_pos rfl] at H; exact H
      clear H
      have H := H1
      clear H1
      by_cases c6 : a0_0 = 4
      · rw [if_pos c6] at H
        have c6b0 : (a0_0 == 4) = true := beq_iff_eq.mpr c6
        have c6b1 : (a0_0 != 4) = false := bne_eq_false_iff_eq.mpr c6
        clear c6
        replace H := Option.bind_eq_some_iff.mp H
        obtain ⟨t119, A70, H⟩ := H
        replace H : (some t119) = some r := H
        have A7 := Aside0.mk A70
        clear A70
        obtain rfl := Option.some.inj H
        go_enter Tryd.func77, Tryd.ntmps77
        go_wp2_with (first | ((with_reducible refine gate_callee (f := 96) rfl ?_); refine goesL_ (some 4) rfl rfl Tryd.func96 (by kernel_rfl) rfl #[.pointer (some ⟨gp0, 0, none⟩)] rfl (by (try simp only [List.map_toArray, List.map_cons, List.map_nil]); first | done | rfl | (simp only [List.length_drop, List.length_take]; rfl)) ?_; (with_reducible refine (spec_l4Form.calls gp0 a0_0 a0_1 a0_2 a0_3 A0_4 c0_4 l0_4 true _ ?side1 ?side2 ?side3 A2.out).mono ?_); (case side1 => exact (by (with_reducible repeat (first | refine blk_drewN ?_ _ | refine blk_drew ?_ | refine blk_alloc ?_ _)); exact BK50.out)); (case side2 => repeat (first | exact HR0_4.out | (with_reducible refine Kd.C_alloc ?_ _) | (with_reducible refine Kd.C_drewN ?_ _) | (with_reducible refine Kd.C_drew ?_))); (case side3 => exact HC0_4.out); rintro e w8 ⟨rfl, hb⟩; refine ⟨_, rfl, ?_⟩; have n0_ := Aside0.mk (blk_below (g := gp0) (o := .cells #[.int .i64 a0_0, .int .i64 a0_1, .int .i64 a0_2, .bool a0_3, .slice A0_4 l0_4.length c0_4] 65 (0, 0)) (by (with_reducible repeat (first | refine blk_drewN ?_ _ | refine blk_drew ?_ | refine blk_alloc ?_ _)); exact BK50.out) hb); have n1_ := Aside0.mk (below_step (by repeat (first | (with_reducible first | exact HB.out | apply below_alloc | apply pw_below_drewN | apply below_drew1 | refine below_set ?_ GE50.out) | exact HB.out)) hb); clear BK50; clear HB; have BK50 := n0_; have HB := n1_; clear n0_ n1_; (try clear hb); (try clear hb2); (try clear hk); (try clear hi)) | ((with_reducible refine gate_callee (f := 97) rfl ?_); refine goesL_ (some 7) rfl rfl Tryd.func97 (by kernel_rfl) rfl #[.pointer (some ⟨gp0, 0, none⟩)] rfl (by (try simp only [List.map_toArray, List.map_cons, List.map_nil]); first | done | rfl | (simp only [List.length_drop, List.length_take]; rfl)) ?_; (with_reducible refine (spec_l4Char.calls gp0 a0_0 a0_1 a0_2 a0_3 A0_4 c0_4 l0_4 true _ ?side1 ?side2 ?side3 A4.out).mono ?_); (case side1 => exact (by (with_reducible repeat (first | refine blk_drewN ?_ _ | refine blk_drew ?_ | refine blk_alloc ?_ _)); exact BK50.out)); (case side2 => repeat (first | exact (Kd.C_below HR0_4.out HB.out) | (with_reducible refine Kd.C_alloc ?_ _) | (with_reducible refine Kd.C_drewN ?_ _) | (with_reducible refine Kd.C_drew ?_))); (case side3 => exact HC0_4.out); rintro e w9 ⟨rfl, hb⟩; refine ⟨_, rfl, ?_⟩; have n0_ := Aside0.mk (blk_below (g := gp0) (o := .cells #[.int .i64 a0_0, .int .i64 a0_1, .int .i64 a0_2, .bool a0_3, .slice A0_4 l0_4.length c0_4] 65 (0, 0)) (by (with_reducible repeat (first | refine blk_drewN ?_ _ | refine blk_drew ?_ | refine blk_alloc ?_ _)); exact BK50.out) hb); have n1_ := Aside0.mk (below_step (by repeat (first | (with_reducible first | exact HB.out | apply below_alloc | apply pw_below_drewN | apply below_drew1 | refine below_set ?_ GE50.out) | exact HB.out)) hb); clear BK50; clear HB; have BK50 := n0_; have HB := n1_; clear n0_ n1_; (try clear hb); (try clear hb2); (try clear hk); (try clear hi); have hcz10_0 : w9.cell? ⟨gp0, 0, none⟩ = some (.int .i64 a0_0) := (blk_cell BK50.out 0).trans rfl; have hcz10_1 : w9.cell? ⟨gp0, 1, none⟩ = some (.int .i64 a0_1) := (blk_cell BK50.out 1).trans rfl; have hcz10_2 : w9.cell? ⟨gp0, 2, none⟩ = some (.int .i64 a0_2) := (blk_cell BK50.out 2).trans rfl; have hcz10_3 : w9.cell? ⟨gp0, 3, none⟩ = some (.bool a0_3) := (blk_cell BK50.out 3).trans rfl; have hcz10_4 : w9.cell? ⟨gp0, 4, none⟩ = some (.slice A0_4 l0_4.length c0_4) := (blk_cell BK50.out 4).trans rfl; have hfz10_0 := blk_frozen BK50.out 0; have hfz10_1 := blk_frozen BK50.out 1; have hfz10_2 := blk_frozen BK50.out 2; have hfz10_3 := blk_frozen BK50.out 3; have hfz10_4 := blk_frozen BK50.out 4) | ((with_reducible refine gate_callee (f := 98) rfl ?_); refine goesL_ (some 18) rfl rfl Tryd.func98 (by kernel_rfl) rfl #[.slice A0_4 l0_4.length c0_4] rfl (by (try simp only [List.map_toArray, List.map_cons, List.map_nil]); first | done | rfl | (simp only [List.length_drop, List.length_take]; rfl)) ?_; (with_reducible refine (spec_l4Params.calls k _ _ l0_4 t119 _ ?side1 ?side2 A7.out).mono ?_); (case side1 => repeat (first | exact (Kd.C_below HR0_4.out HB.out) | (with_reducible refine Kd.C_alloc ?_ _) | (with_reducible refine Kd.C_drewN ?_ _) | (with_reducible refine Kd.C_drew ?_))); (case side2 => exact HC0_4.out); rintro e w' ⟨rfl, ⟨nd, rfl⟩⟩; refine ⟨_, rfl, ?_⟩))
        go_ret
        exact ⟨by first | rfl | (simp [errW_none, errW_some] <;> rfl) | (simp [*, errW_none, errW_some] <;> rfl), by repeat (first | (with_reducible first | exact HB.out | apply below_alloc | apply pw_below_drewN | apply below_drew1 | refine below_set ?_ GE50.out) | exact HB.out)⟩
      · rw [if_neg c6] at H
        have c6b0 : (a0_0 == 4) = false := beq_eq_false_iff_ne.mpr c6
        have c6b1 : (a0_0 != 4) = true := bne_iff_ne.mpr c6
        obtain rfl := Option.some.inj H
        go_enter Tryd.func77, Tryd.ntmps77
        go_wp2_with (first | ((with_reducible refine gate_callee (f := 96) rfl ?_); refine goesL_ (some 4) rfl rfl Tryd.func96 (by kernel_rfl) rfl #[.pointer (some ⟨gp0, 0, none⟩)] rfl (by (try simp only [List.map_toArray, List.map_cons, List.map_nil]); first | done | rfl | (simp only [List.length_drop, List.length_take]; rfl)) ?_; (with_reducible refine (spec_l4Form.calls gp0 a0_0 a0_1 a0_2 a0_3 A0_4 c0_4 l0_4 true _ ?side1 ?side2 ?side3 A2.out).mono ?_); (case side1 => exact (by (with_reducible repeat (first | refine blk_drewN ?_ _ | refine blk_drew ?_ | refine blk_alloc ?_ _)); exact BK50.out)); (case side2 => repeat (first | exact HR0_4.out | (with_reducible refine Kd.C_alloc ?_ _) | (with_reducible refine Kd.C_drewN ?_ _) | (with_reducible refine Kd.C_drew ?_))); (case side3 => exact HC0_4.out); rintro e w11 ⟨rfl, hb⟩; refine ⟨_, rfl, ?_⟩; have n0_ := Aside0.mk (blk_below (g := gp0) (o := .cells #[.int .i64 a0_0, .int .i64 a0_1, .int .i64 a0_2, .bool a0_3, .slice A0_4 l0_4.length c0_4] 65 (0, 0)) (by (with_reducible repeat (first | refine blk_drewN ?_ _ | refine blk_drew ?_ | refine blk_alloc ?_ _)); exact BK50.out) hb); have n1_ := Aside0.mk (below_step (by repeat (first | (with_reducible first | exact HB.out | apply below_alloc | apply pw_below_drewN | apply below_drew1 | refine below_set ?_ GE50.out) | exact HB.out)) hb); clear BK50; clear HB; have BK50 := n0_; have HB := n1_; clear n0_ n1_; (try clear hb); (try clear hb2); (try clear hk); (try clear hi)) | ((with_reducible refine gate_callee (f := 97) rfl ?_); refine goesL_ (some 7) rfl rfl Tryd.func97 (by kernel_rfl) rfl #[.pointer (some ⟨gp0, 0, none⟩)] rfl (by (try simp only [List.map_toArray, List.map_cons, List.map_nil]); first | done | rfl | (simp only [List.length_drop, List.length_take]; rfl)) ?_; (with_reducible refine (spec_l4Char.calls gp0 a0_0 a0_1 a0_2 a0_3 A0_4 c0_4 l0_4 true _ ?side1 ?side2 ?side3 A4.out).mono ?_); (case side1 => exact (by (with_reducible repeat (first | refine blk_drewN ?_ _ | refine blk_drew ?_ | refine blk_alloc ?_ _)); exact BK50.out)); (case side2 => repeat (first | exact (Kd.C_below HR0_4.out HB.out) | (with_reducible refine Kd.C_alloc ?_ _) | (with_reducible refine Kd.C_drewN ?_ _) | (with_reducible refine Kd.C_drew ?_))); (case side3 => exact HC0_4.out); rintro e w12 ⟨rfl, hb⟩; refine ⟨_, rfl, ?_⟩; have n0_ := Aside0.mk (blk_below (g := gp0) (o := .cells #[.int .i64 a0_0, .int .i64 a0_1, .int .i64 a0_2, .bool a0_3, .slice A0_4 l0_4.length c0_4] 65 (0, 0)) (by (with_reducible repeat (first | refine blk_drewN ?_ _ | refine blk_drew ?_ | refine blk_alloc ?_ _)); exact BK50.out) hb); have n1_ := Aside0.mk (below_step (by repeat (first | (with_reducible first | exact HB.out | apply below_alloc | apply pw_below_drewN | apply below_drew1 | refine below_set ?_ GE50.out) | exact HB.out)) hb); clear BK50; clear HB; have BK50 := n0_; have HB := n1_; clear n0_ n1_; (try clear hb); (try clear hb2); (try clear hk); (try clear hi); have hcz13_0 : w12.cell? ⟨gp0, 0, none⟩ = some (.int .i64 a0_0) := (blk_cell BK50.out 0).trans rfl; have hcz13_1 : w12.cell? ⟨gp0, 1, none⟩ = some (.int .i64 a0_1) := (blk_cell BK50.out 1).trans rfl; have hcz13_2 : w12.cell? ⟨gp0, 2, none⟩ = some (.int .i64 a0_2) := (blk_cell BK50.out 2).trans rfl; have hcz13_3 : w12.cell? ⟨gp0, 3, none⟩ = some (.bool a0_3) := (blk_cell BK50.out 3).trans rfl; have hcz13_4 : w12.cell? ⟨gp0, 4, none⟩ = some (.slice A0_4 l0_4.length c0_4) := (blk_cell BK50.out 4).trans rfl; have hfz13_0 := blk_frozen BK50.out 0; have hfz13_1 := blk_frozen BK50.out 1; have hfz13_2 := blk_frozen BK50.out 2; have hfz13_3 := blk_frozen BK50.out 3; have hfz13_4 := blk_frozen BK50.out 4))
        go_ret
        exact ⟨by first | rfl | (simp [errW_none, errW_some] <;> rfl) | (simp [*, errW_none, errW_some] <;> rfl), by repeat (first | (with_reducible first | exact HB.out | apply below_alloc | apply pw_below_drewN | apply below_drew1 | refine below_set ?_ GE50.out) | exact HB.out)⟩
    · replace c5 := Bool.eq_false_iff.mpr c5
      subst c5
      have H1 : (some 3) = some r := by rw [if_neg (show ¬ (false = true) by decide)] at H; exact H
      clear H
      have H := H1
      clear H1
      obtain rfl := Option.some.inj H
      go_enter Tryd.func77, Tryd.ntmps77
      go_wp2_with (first | ((with_reducible refine gate_callee (f := 96) rfl ?_); refine goesL_ (some 4) rfl rfl Tryd.func96 (by kernel_rfl) rfl #[.pointer (some ⟨gp0, 0, none⟩)] rfl (by (try simp only [List.map_toArray, List.map_cons, List.map_nil]); first | done | rfl | (simp only [List.length_drop, List.length_take]; rfl)) ?_; (with_reducible refine (spec_l4Form.calls gp0 a0_0 a0_1 a0_2 a0_3 A0_4 c0_4 l0_4 true _ ?side1 ?side2 ?side3 A2.out).mono ?_); (case side1 => exact (by (with_reducible repeat (first | refine blk_drewN ?_ _ | refine blk_drew ?_ | refine blk_alloc ?_ _)); exact BK50.out)); (case side2 => repeat (first | exact HR0_4.out | (with_reducible refine Kd.C_alloc ?_ _) | (with_reducible refine Kd.C_drewN ?_ _) | (with_reducible refine Kd.C_drew ?_))); (case side3 => exact HC0_4.out); rintro e w14 ⟨rfl, hb⟩; refine ⟨_, rfl, ?_⟩; have n0_ := Aside0.mk (blk_below (g := gp0) (o := .cells #[.int .i64 a0_0, .int .i64 a0_1, .int .i64 a0_2, .bool a0_3, .slice A0_4 l0_4.length c0_4] 65 (0, 0)) (by (with_reducible repeat (first | refine blk_drewN ?_ _ | refine blk_drew ?_ | refine blk_alloc ?_ _)); exact BK50.out) hb); have n1_ := Aside0.mk (below_step (by repeat (first | (with_reducible first | exact HB.out | apply below_alloc | apply pw_below_drewN | apply below_drew1 | refine below_set ?_ GE50.out) | exact HB.out)) hb); clear BK50; clear HB; have BK50 := n0_; have HB := n1_; clear n0_ n1_; (try clear hb); (try clear hb2); (try clear hk); (try clear hi)) | ((with_reducible refine gate_callee (f := 97) rfl ?_); refine goesL_ (some 7) rfl rfl Tryd.func97 (by kernel_rfl) rfl #[.pointer (some ⟨gp0, 0, none⟩)] rfl (by (try simp only [List.map_toArray, List.map_cons, List.map_nil]); first | done | rfl | (simp only [List.length_drop, List.length_take]; rfl)) ?_; (with_reducible refine (spec_l4Char.calls gp0 a0_0 a0_1 a0_2 a0_3 A0_4 c0_4 l0_4 false _ ?side1 ?side2 ?side3 A4.out).mono ?_); (case side1 => exact (by (with_reducible repeat (first | refine blk_drewN ?_ _ | refine blk_drew ?_ | refine blk_alloc ?_ _)); exact BK50.out)); (case side2 => repeat (first | exact (Kd.C_below HR0_4.out HB.out) | (with_reducible refine Kd.C_alloc ?_ _) | (with_reducible refine Kd.C_drewN ?_ _) | (with_reducible refine Kd.C_drew ?_))); (case side3 => exact HC0_4.out); rintro e w15 ⟨rfl, hb⟩; refine ⟨_, rfl, ?_⟩; have n0_ := Aside0.mk (blk_below (g := gp0) (o := .cells #[.int .i64 a0_0, .int .i64 a0_1, .int .i64 a0_2, .bool a0_3, .slice A0_4 l0_4.length c0_4] 65 (0, 0)) (by (with_reducible repeat (first | refine blk_drewN ?_ _ | refine blk_drew ?_ | refine blk_alloc ?_ _)); exact BK50.out) hb); have n1_ := Aside0.mk (below_step (by repeat (first | (with_reducible first | exact HB.out | apply below_alloc | apply pw_below_drewN | apply below_drew1 | refine below_set ?_ GE50.out) | exact HB.out)) hb); clear BK50; clear HB; have BK50 := n0_; have HB := n1_; clear n0_ n1_; (try clear hb); (try clear hb2); (try clear hk); (try clear hi)))
      go_ret
      exact ⟨by first | rfl | (simp [errW_none, errW_some] <;> rfl) | (simp [*, errW_none, errW_some] <;> rfl), by repeat (first | (with_reducible first | exact HB.out | apply below_alloc | apply pw_below_drewN | apply below_drew1 | refine below_set ?_ GE50.out) | exact HB.out)⟩
  · replace c3 := Bool.eq_false_iff.mpr c3
    subst c3
    have H1 : (some 1) = some r := by rw [if_neg (show ¬ (false = true) by decide)] at H; exact H
    clear H
    have H := H1
    clear H1
    obtain rfl := Option.some.inj H
    go_enter Tryd.func77, Tryd.ntmps77
    go_wp2_with (first | ((with_reducible refine gate_callee (f := 96) rfl ?_); refine goesL_ (some 4) rfl rfl Tryd.func96 (by kernel_rfl) rfl #[.pointer (some ⟨gp0, 0, none⟩)] rfl (by (try simp only [List.map_toArray, List.map_cons, List.map_nil]); first | done | rfl | (simp only [List.length_drop, List.length_take]; rfl)) ?_; (with_reducible refine (spec_l4Form.calls gp0 a0_0 a0_1 a0_2 a0_3 A0_4 c0_4 l0_4 false _ ?side1 ?side2 ?side3 A2.out).mono ?_); (case side1 => exact (by (with_reducible repeat (first | refine blk_drewN ?_ _ | refine blk_drew ?_ | refine blk_alloc ?_ _)); exact BK50.out)); (case side2 => repeat (first | exact HR0_4.out | (with_reducible refine Kd.C_alloc ?_ _) | (with_reducible refine Kd.C_drewN ?_ _) | (with_reducible refine Kd.C_drew ?_))); (case side3 => exact HC0_4.out); rintro e w16 ⟨rfl, hb⟩; refine ⟨_, rfl, ?_⟩; have n0_ := Aside0.mk (blk_below (g := gp0) (o := .cells #[.int .i64 a0_0, .int .i64 a0_1, .int .i64 a0_2, .bool a0_3, .slice A0_4 l0_4.length c0_4] 65 (0, 0)) (by (with_reducible repeat (first | refine blk_drewN ?_ _ | refine blk_drew ?_ | refine blk_alloc ?_ _)); exact BK50.out) hb); have n1_ := Aside0.mk (below_step (by repeat (first | (with_reducible first | exact HB.out | apply below_alloc | apply pw_below_drewN | apply below_drew1 | refine below_set ?_ GE50.out) | exact HB.out)) hb); clear BK50; clear HB; have BK50 := n0_; have HB := n1_; clear n0_ n1_; (try clear hb); (try clear hb2); (try clear hk); (try clear hi)))
    go_ret
    exact ⟨by first | rfl | (simp [errW_none, errW_some] <;> rfl) | (simp [*, errW_none, errW_some] <;> rfl), by repeat (first | (with_reducible first | exact HB.out | apply below_alloc | apply pw_below_drewN | apply below_drew1 | refine below_set ?_ GE50.out) | exact HB.out)⟩

end Go.Proofs.YtpoafgokngpglaaDoor.PFnExactActionText
