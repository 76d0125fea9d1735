-- Written for this claim by a program of this session's (wip/p2.sh).
import Derived.Test.YtpoafgokngpglaaDoorPFnExactActionTextx0
namespace Go.Proofs.YtpoafgokngpglaaDoor.PFnExactActionText
open Go.RowKit Go.Proofs.YtpoafgokngpglaaDoorW.PrintWords Go.Proofs.YtpoafgokngpglaaDoorW.PrintLast Go.Proofs.YtpoafgokngpglaaDoorW.PrintMore
attribute [local go_sem] max2_int min2_int max_two min_two max_three min_three max_four min_four   -- for this text's walks alone
set_option linter.unusedVariables false
set_option linter.unusedSimpArgs false

/-! ### laws_eqTextResult: function 22 -/
def laws_eqTextResult.f (a0_0 : Int) (a0_1 : ByteArray) (a1_0 : Int) (a1_1 : ByteArray) : Option (Bool) := if a0_0 = a1_0 then (if a0_1.toList = a1_1.toList then (some true) else (some false)) else (some false)
set_option maxHeartbeats 8000000 in
set_option maxRecDepth 100000 in
theorem laws_eqTextResult.calls (a0_0 : Int) (a0_1 : ByteArray) (a1_0 : Int) (a1_1 : ByteArray) (w : World) (h : laws_eqTextResult.f a0_0 a0_1 a1_0 a1_1 = some true) :
    Calls Tryd.prog 22 #[.agg #[.int .i64 a0_0, .string a0_1], .agg #[.int .i64 a1_0, .string a1_1]] w fun e w' => e = .returned (.bool true) ∧ Below w.heap.size w w' := by
  have hu39 := Tryd.underlying39
  have HB := Aside0.mk (Below.refl w.heap.size w)
  have H : (if a0_0 = a1_0 then (if a0_1.toList = a1_1.toList then (some true) else (some false)) else (some false)) = some true := h
  clear h
  by_cases c3 : a0_0 = a1_0
  · rw [if_pos c3] at H
    have c3b0 : (a0_0 == a1_0) = true := beq_iff_eq.mpr c3
    have c3b1 : (a0_0 != a1_0) = false := bne_eq_false_iff_eq.mpr c3
    clear c3
    by_cases c4 : a0_1.toList = a1_1.toList
    · rw [if_pos c4] at H
      have c4b0 : (a0_1.toList == a1_1.toList) = true := beq_iff_eq.mpr c4
      have c4b1 : (a0_1.toList != a1_1.toList) = false := bne_eq_false_iff_eq.mpr c4
      clear c4
      go_enter Tryd.func22, Tryd.ntmps22
      go_wp2_with (first | ((with_reducible refine gate_dst (N := 2) rfl ?_); refine box_event ?hg (N := 2) ?hd (cs := #[.int .i64 a0_0, .string a0_1]) (t := 39) ?hr ?_; (case hd => rfl); (case hg => rfl); (case hr => first | (go_simp; done) | (go_simp; rfl)); intro gb101 hg w5 hbox hb; have n0_ := Aside0.mk (below_step (by repeat (first | (with_reducible first | exact HB.out | apply below_alloc | apply pw_below_drewN | apply below_drew1) | exact HB.out)) hb); have n1_ := Aside0.mk (hbox); have n2_ := Aside0.mk ((by rw [hg]; exact (below_size (by repeat (first | (with_reducible first | exact HB.out | apply below_alloc | apply pw_below_drewN | apply below_drew1) | exact HB.out))) : w.heap.size ≤ gb101)); have n3_ := Aside0.mk ((by rw [hg]; exact (below_size (by repeat (first | (with_reducible first | exact HB.out | apply below_alloc | apply pw_below_drewN | apply below_drew1) | exact HB.out))) : w.heap.size ≤ gb101)); clear HB; have HB := n0_; have BK101 := n1_; have GW101 := n2_; have GE101 := n3_; clear n0_ n1_ n2_ n3_; clear hb hbox hg) | ((with_reducible refine gate_dst (N := 3) rfl ?_); refine box_event ?hg (N := 3) ?hd (cs := #[.int .i64 a1_0, .string a1_1]) (t := 39) ?hr ?_; (case hd => rfl); (case hg => rfl); (case hr => first | (go_simp; done) | (go_simp; rfl)); intro gb102 hg w6 hbox hb; have n0_ := Aside0.mk (blk_below (g := gb101) (o := .cells #[.int .i64 a0_0, .string a0_1] 39 (0, 0)) (by (with_reducible repeat (first | refine blk_drewN ?_ _ | refine blk_drew ?_ | refine blk_alloc ?_ _)); exact BK101.out) hb); have n1_ := Aside0.mk (below_step (by repeat (first | (with_reducible first | exact HB.out | apply below_alloc | apply pw_below_drewN | apply below_drew1 | refine below_set ?_ GE101.out) | exact HB.out)) hb); have n2_ := Aside0.mk (hbox); have n3_ := Aside0.mk ((by rw [hg]; exact (below_size (by repeat (first | (with_reducible first | exact HB.out | apply below_alloc | apply pw_below_drewN | apply below_drew1 | refine below_set ?_ GE101.out) | exact HB.out))) : w.heap.size ≤ gb102)); have n4_ := Aside0.mk ((by rw [hg]; exact (below_size (by repeat (first | (with_reducible first | exact HB.out | apply below_alloc | apply pw_below_drewN | apply below_drew1 | refine below_set ?_ GE101.out) | exact HB.out))) : w.heap.size ≤ gb102)); have n5_ := Aside0.mk ((by rw [hg]; exact Nat.ne_of_lt (blk_lt (g := gb101) (o := .cells #[.int .i64 a0_0, .string a0_1] 39 (0, 0)) (by (with_reducible repeat (first | refine blk_drewN ?_ _ | refine blk_drew ?_ | refine blk_alloc ?_ _)); exact BK101.out)) : gb101 ≠ gb102)); have n6_ := Aside0.mk ((by rw [hg]; exact Nat.ne_of_gt (blk_lt (g := gb101) (o := .cells #[.int .i64 a0_0, .string a0_1] 39 (0, 0)) (by (with_reducible repeat (first | refine blk_drewN ?_ _ | refine blk_drew ?_ | refine blk_alloc ?_ _)); exact BK101.out)) : gb102 ≠ gb101)); clear BK101; clear HB; have BK101 := n0_; have HB := n1_; have BK102 := n2_; have GW102 := n3_; have GE102 := n4_; have NB101_102 := n5_; have NB102_101 := n6_; clear n0_ n1_ n2_ n3_ n4_ n5_ n6_; clear hb hbox hg; have hnb7 := NB101_102.out; have hnc7 := NB102_101.out; have hcz8_0 : w6.cell? ⟨gb101, 0, none⟩ = some (.int .i64 a0_0) := (blk_cell BK101.out 0).trans rfl; have hcz8_1 : w6.cell? ⟨gb101, 1, none⟩ = some (.string a0_1) := (blk_cell BK101.out 1).trans rfl; have hfz8_0 := blk_frozen BK101.out 0; have hfz8_1 := blk_frozen BK101.out 1; have hcz9_0 : w6.cell? ⟨gb102, 0, none⟩ = some (.int .i64 a1_0) := (blk_cell BK102.out 0).trans rfl; have hcz9_1 : w6.cell? ⟨gb102, 1, none⟩ = some (.string a1_1) := (blk_cell BK102.out 1).trans rfl; have hfz9_0 := blk_frozen BK102.out 0; have hfz9_1 := blk_frozen BK102.out 1))
      go_ret
      exact ⟨by first | rfl | (simp [errW_none, errW_some] <;> rfl) | (simp [*, errW_none, errW_some] <;> rfl), by repeat (first | (with_reducible first | exact HB.out | apply below_alloc | apply pw_below_drewN | apply below_drew1 | refine below_set ?_ GE101.out | refine below_set ?_ GE102.out) | exact HB.out)⟩
    · rw [if_neg c4] at H
      have c4b0 : (a0_1.toList == a1_1.toList) = false := beq_eq_false_iff_ne.mpr c4
      have c4b1 : (a0_1.toList != a1_1.toList) = true := bne_iff_ne.mpr c4
      exact absurd H (by simp)
  · rw [if_neg c3] at H
    have c3b0 : (a0_0 == a1_0) = false := beq_eq_false_iff_ne.mpr c3
    have c3b1 : (a0_0 != a1_0) = true := bne_iff_ne.mpr c3
    exact absurd H (by simp)

/-! ### laws_szInt64S: function 76 -/
def laws_szInt64S.f (l0 : List Int) (a1 : Int) : Option (Int) := if (wrap64 (a1 - (l0.length : Int))) < 0 then (some (-1)) else (some (wrap64 (a1 - (l0.length : Int))))
set_option maxHeartbeats 8000000 in
set_option maxRecDepth 100000 in
theorem laws_szInt64S.calls (A0 : Option Addr) (c0 : Nat) (l0 : List Int) (a1 : Int) (r : Int) (w : World) (hr0 : Kd.C (Kd.int .i64) w A0 l0.length l0) (hc0 : l0.length ≤ c0) (h : laws_szInt64S.f l0 a1 = some r) :
    Calls Tryd.prog 76 #[.slice A0 l0.length c0, .int .i64 a1] w fun e w' => e = .returned (.int .i64 r) ∧ Drawn0 w w' := by
  have HR0 := Aside0.mk hr0
  have HC0 := Aside0.mk hc0
  clear hr0 hc0
  have H : (if (wrap64 (a1 - (l0.length : Int))) < 0 then (some (-1)) else (some (wrap64 (a1 - (l0.length : Int))))) = some r := h
  clear h
  by_cases c3 : (wrap64 (a1 - (l0.length : Int))) < 0
  · rw [if_pos c3] at H
    have c3b0 : decide ((wrap64 (a1 - (l0.length : Int))) < 0) = true := decide_eq_true c3
    clear c3
    obtain rfl := Option.some.inj H
    go_enter Tryd.func76, Tryd.ntmps76
    go_wp2
    go_ret
    exact ⟨by first | rfl | (simp; done) | (simp [*]; done), by repeat (first | exact Drawn0.refl _ | apply Drawn0.step)⟩
  · rw [if_neg c3] at H
    have c3b0 : decide ((wrap64 (a1 - (l0.length : Int))) < 0) = false := decide_eq_false c3
    clear c3
    obtain rfl := Option.some.inj H
    go_enter Tryd.func76, Tryd.ntmps76
    go_wp2
    go_ret
    exact ⟨by first | rfl | (simp; done) | (simp [*]; done), by repeat (first | exact Drawn0.refl _ | apply Drawn0.step)⟩

/-! ### laws_szAction: function 38 -/
def laws_szAction.f (a0_0 : Int) (a0_1 : Int) (a0_2 : Int) (a0_3 : Bool) (l0_4 : List Int) (a1 : Int) : Option (Int) := (laws_szInt64S.f l0_4 a1).bind fun t104 => (if t104 < 0 then (some (-1)) else (some t104))
set_option maxHeartbeats 8000000 in
set_option maxRecDepth 100000 in
theorem laws_szAction.calls (a0_0 : Int) (a0_1 : Int) (a0_2 : Int) (a0_3 : Bool) (A0_4 : Option Addr) (c0_4 : Nat) (l0_4 : List Int) (a1 : Int) (r : Int) (w : World) (hr0_4 : Kd.C (Kd.int .i64) w A0_4 l0_4.length l0_4) (hc0_4 : l0_4.length ≤ c0_4) (h : laws_szAction.f a0_0 a0_1 a0_2 a0_3 l0_4 a1 = some r) :
    Calls Tryd.prog 38 #[.agg #[.int .i64 a0_0, .int .i64 a0_1, .int .i64 a0_2, .bool a0_3, .slice A0_4 l0_4.length c0_4], .int .i64 a1] w fun e w' => e = .returned (.int .i64 r) ∧ Below w.heap.size w w' := by
  have hu62 := Tryd.underlying62
  have HR0_4 := Aside0.mk hr0_4
  have HC0_4 := Aside0.mk hc0_4
  clear hr0_4 hc0_4
  have HB := Aside0.mk (Below.refl w.heap.size w)
  have H : ((laws_szInt64S.f l0_4 a1).bind fun t104 => (if t104 < 0 then (some (-1)) else (some t104))) = some r := h
  clear h
  replace H := Option.bind_eq_some_iff.mp H
  obtain ⟨t104, A30, H⟩ := H
  replace H : (if t104 < 0 then (some (-1)) else (some t104)) = some r := H
  have A3 := Aside0.mk A30
  clear A30
  by_cases c4 : t104 < 0
  · rw [if_pos c4] at H
    have c4b0 : decide (t104 < 0) = true := decide_eq_true c4
    clear c4
    obtain rfl := Option.some.inj H
    go_enter Tryd.func38, Tryd.ntmps38
    go_wp2_with (first | ((with_reducible refine gate_dst (N := 2) rfl ?_); refine box_event ?hg (N := 2) ?hd (cs := #[.int .i64 a0_0, .int .i64 a0_1, .int .i64 a0_2, .bool a0_3, .slice A0_4 l0_4.length c0_4]) (t := 62) ?hr ?_; (case hd => rfl); (case hg => rfl); (case hr => first | (go_simp; done) | (go_simp; rfl)); intro gb103 hg w5 hbox hb; have n0_ := Aside0.mk (below_step (by repeat (first | (with_reducible first | exact HB.out | apply below_alloc | apply pw_below_drewN | apply below_drew1) | exact HB.out)) hb); have n1_ := Aside0.mk (hbox); have n2_ := Aside0.mk ((by rw [hg]; exact (below_size (by repeat (first | (with_reducible first | exact HB.out | apply below_alloc | apply pw_below_drewN | apply below_drew1) | exact HB.out))) : w.heap.size ≤ gb103)); have n3_ := Aside0.mk ((by rw [hg]; exact (below_size (by repeat (first | (with_reducible first | exact HB.out | apply below_alloc | apply pw_below_drewN | apply below_drew1) | exact HB.out))) : w.heap.size ≤ gb103)); clear HB; have HB := n0_; have BK103 := n1_; have GW103 := n2_; have GE103 := n3_; clear n0_ n1_ n2_ n3_; clear hb hbox hg; have hcz6_0 : w5.cell? ⟨gb103, 0, none⟩ = some (.int .i64 a0_0) := (blk_cell BK103.out 0).trans rfl; have hcz6_1 : w5.cell? ⟨gb103, 1, none⟩ = some (.int .i64 a0_1) := (blk_cell BK103.out 1).trans rfl; have hcz6_2 : w5.cell? ⟨gb103, 2, none⟩ = some (.int .i64 a0_2) := (blk_cell BK103.out 2).trans rfl; have hcz6_3 : w5.cell? ⟨gb103, 3, none⟩ = some (.bool a0_3) := (blk_cell BK103.out 3).trans rfl; have hcz6_4 : w5.cell? ⟨gb103, 4, none⟩ = some (.slice A0_4 l0_4.length c0_4) := (blk_cell BK103.out 4).trans rfl; have hfz6_0 := blk_frozen BK103.out 0; have hfz6_1 := blk_frozen BK103.out 1; have hfz6_2 := blk_frozen BK103.out 2; have hfz6_3 := blk_frozen BK103.out 3; have hfz6_4 := blk_frozen BK103.out 4) | ((with_reducible refine gate_callee (f := 76) rfl ?_); refine goesL_ (some 8) rfl rfl Tryd.func76 (by kernel_rfl) rfl #[.slice A0_4 l0_4.length c0_4, .int .i64 a1] rfl (by (try simp only [List.map_toArray, List.map_cons, List.map_nil]); first | done | rfl | (simp only [List.length_drop, List.length_take]; rfl)) ?_; (with_reducible refine (laws_szInt64S.calls _ _ l0_4 a1 t104 _ ?side1 ?side2 A3.out).mono ?_); (case side1 => repeat (first | exact (Kd.C_below HR0_4.out HB.out) | (with_reducible refine Kd.C_alloc ?_ _) | (with_reducible refine Kd.C_drewN ?_ _) | (with_reducible refine Kd.C_drew ?_))); (case side2 => exact HC0_4.out); rintro e w' ⟨rfl, ⟨nd, rfl⟩⟩; refine ⟨_, rfl, ?_⟩))
    go_ret
    exact ⟨by first | rfl | (simp [errW_none, errW_some] <;> rfl) | (simp [*, errW_none, errW_some] <;> rfl), by repeat (first | (with_reducible first | exact HB.out | apply below_alloc | apply pw_below_drewN | apply below_drew1 | refine below_set ?_ GE103.out) | exact HB.out)⟩
  · rw [if_neg c4] at H
    have c4b0 : decide (t104 < 0) = false := decide_eq_false c4
    clear c4
    obtain rfl := Option.some.inj H
    go_enter Tryd.func38, Tryd.ntmps38
    go_wp2_with (first | ((with_reducible refine gate_dst (N := 2) rfl ?_); refine box_event ?hg (N := 2) ?hd (cs := #[.int .i64 a0_0, .int .i64 a0_1, .int .i64 a0_2, .bool a0_3, .slice A0_4 l0_4.length c0_4]) (t := 62) ?hr ?_; (case hd => rfl); (case hg => rfl); (case hr => first | (go_simp; done) | (go_simp; rfl)); intro gb103 hg w7 hbox hb; have n0_ := Aside0.mk (below_step (by repeat (first | (with_reducible first | exact HB.out | apply below_alloc | apply pw_below_drewN | apply below_drew1) | exact HB.out)) hb); have n1_ := Aside0.mk (hbox); have n2_ := Aside0.mk ((by rw [hg]; exact (below_size (by repeat (first | (with_reducible first | exact HB.out | apply below_alloc | apply pw_below_drewN | apply below_drew1) | exact HB.out))) : w.heap.size ≤ gb103)); have n3_ := Aside0.mk ((by rw [hg]; exact (below_size (by repeat (first | (with_reducible first | exact HB.out | apply below_alloc | apply pw_below_drewN | apply below_drew1) | exact HB.out))) : w.heap.size ≤ gb103)); clear HB; have HB := n0_; have BK103 := n1_; have GW103 := n2_; have GE103 := n3_; clear n0_ n1_ n2_ n3_; clear hb hbox hg; have hcz8_0 : w7.cell? ⟨gb103, 0, none⟩ = some (.int .i64 a0_0) := (blk_cell BK103.out 0).trans rfl; have hcz8_1 : w7.cell? ⟨gb103, 1, none⟩ = some (.int .i64 a0_1) := (blk_cell BK103.out 1).trans rfl; have hcz8_2 : w7.cell? ⟨gb103, 2, none⟩ = some (.int .i64 a0_2) := (blk_cell BK103.out 2).trans rfl; have hcz8_3 : w7.cell? ⟨gb103, 3, none⟩ = some (.bool a0_3) := (blk_cell BK103.out 3).trans rfl; have hcz8_4 : w7.cell? ⟨gb103, 4, none⟩ = some (.slice A0_4 l0_4.length c0_4) := (blk_cell BK103.out 4).trans rfl; have hfz8_0 := blk_frozen BK103.out 0; have hfz8_1 := blk_frozen BK103.out 1; have hfz8_2 := blk_frozen BK103.out 2; have hfz8_3 := blk_frozen BK103.out 3; have hfz8_4 := blk_frozen BK103.out 4) | ((with_reducible refine gate_callee (f := 76) rfl ?_); refine goesL_ (some 8) rfl rfl Tryd.func76 (by kernel_rfl) rfl #[.slice A0_4 l0_4.length c0_4, .int .i64 a1] rfl (by (try simp only [List.map_toArray, List.map_cons, List.map_nil]); first | done | rfl | (simp only [List.length_drop, List.length_take]; rfl)) ?_; (with_reducible refine (laws_szInt64S.calls _ _ l0_4 a1 t104 _ ?side1 ?side2 A3.out).mono ?_); (case side1 => repeat (first | exact (Kd.C_below HR0_4.out HB.out) | (with_reducible refine Kd.C_alloc ?_ _) | (with_reducible refine Kd.C_drewN ?_ _) | (with_reducible refine Kd.C_drew ?_))); (case side2 => exact HC0_4.out); rintro e w' ⟨rfl, ⟨nd, rfl⟩⟩; refine ⟨_, rfl, ?_⟩))
    go_ret
    exact ⟨by first | rfl | (simp [errW_none, errW_some] <;> rfl) | (simp [*, errW_none, errW_some] <;> rfl), by repeat (first | (with_reducible first | exact HB.out | apply below_alloc | apply pw_below_drewN | apply below_drew1 | refine below_set ?_ GE103.out) | exact HB.out)⟩

/-! ### spec_l1In: function 48 -/
def spec_l1In.f (a0 : Int) (a1 : Int) (a2 : Int) : Option (Bool) := if a0 ≥ a1 then (some (decide (a0 ≤ a2))) else (some false)
set_option maxHeartbeats 8000000 in
set_option maxRecDepth 100000 in
theorem spec_l1In.calls (a0 : Int) (a1 : Int) (a2 : Int) (r : Bool) (w : World) (h : spec_l1In.f a0 a1 a2 = some r) :
    Calls Tryd.prog 48 #[.int .i64 a0, .int .i64 a1, .int .i64 a2] w fun e w' => e = .returned (.bool r) ∧ Drawn0 w w' := by
  have H : (if a0 ≥ a1 then (some (decide (a0 ≤ a2))) else (some false)) = some r := h
  clear h
  by_cases c4 : a0 ≥ a1
  · rw [if_pos c4] at H
    have c4b0 : decide (a1 ≤ a0) = true := decide_eq_true c4
    clear c4
    obtain rfl := Option.some.inj H
    go_enter Tryd.func48, Tryd.ntmps48
    go_wp2
    go_ret
    exact ⟨by first | rfl | (simp; done) | (simp [*]; done), by repeat (first | exact Drawn0.refl _ | apply Drawn0.step)⟩
  · rw [if_neg c4] at H
    have c4b0 : decide (a1 ≤ a0) = false := decide_eq_false c4
    clear c4
    obtain rfl := Option.some.inj H
    go_enter Tryd.func48, Tryd.ntmps48
    go_wp2
    go_ret
    exact ⟨by first | rfl | (simp; done) | (simp [*]; done), by repeat (first | exact Drawn0.refl _ | apply Drawn0.step)⟩

/-! ### spec_l4Form: function 96 -/
def spec_l4Form.f (a0_0 : Int) (a0_1 : Int) (a0_2 : Int) (a0_3 : Bool) (l0_4 : List Int) : Option (Bool) := (spec_l1In.f a0_0 0 5).bind fun t105 => (if t105 = true then (if a0_0 = 0 then (if a0_1 = 0 then (if a0_0 = 5 then (if a0_0 = 4 then (some true) else (if a0_3 = true then (some false) else (some ((l0_4.length : Int) == 0)))) else (if a0_2 = 0 then (if a0_0 = 4 then (some true) else (if a0_3 = true then (some false) else (some ((l0_4.length : Int) == 0)))) else (some false))) else (some false)) else (if a0_0 = 5 then (if a0_0 = 4 then (some true) else (if a0_3 = true then (some false) else (some ((l0_4.length : Int) == 0)))) else (if a0_2 = 0 then (if a0_0 = 4 then (some true) else (if a0_3 = true then (some false) else (some ((l0_4.length : Int) == 0)))) else (some false)))) else (some false))
set_option maxHeartbeats 8000000 in
set_option maxRecDepth 100000 in
theorem spec_l4Form.calls (gp0 : Nat) (a0_0 : Int) (a0_1 : Int) (a0_2 : Int) (a0_3 : Bool) (A0_4 : Option Addr) (c0_4 : Nat) (l0_4 : List Int) (r : Bool) (w : World) (hp0 : w.heap[gp0]? = some (.cells #[.int .i64 a0_0, .int .i64 a0_1, .int .i64 a0_2, .bool a0_3, .slice A0_4 l0_4.length c0_4] 65 (0, 0))) (hr0_4 : Kd.C (Kd.int .i64) w A0_4 l0_4.length l0_4) (hc0_4 : l0_4.length ≤ c0_4) (h : spec_l4Form.f a0_0 a0_1 a0_2 a0_3 l0_4 = some r) :
    Calls Tryd.prog 96 #[.pointer (some ⟨gp0, 0, none⟩)] w fun e w' => e = .returned (.bool r) ∧ Below w.heap.size w w' := by
  have HR0_4 := Aside0.mk hr0_4
  have HC0_4 := Aside0.mk hc0_4
  clear hr0_4 hc0_4
  have BK50 := Aside0.mk hp0
  clear hp0
  have HB := Aside0.mk (Below.refl w.heap.size w)
  have H : ((spec_l1In.f a0_0 0 5).bind fun t105 => (if t105 = true then (if a0_0 = 0 then (if a0_1 = 0 then (if a0_0 = 5 then (if a0_0 = 4 then (some true) else (if a0_3 = true then (some false) else (some ((l0_4.length : Int) == 0)))) else (if a0_2 = 0 then (if a0_0 = 4 then (some true) else (if a0_3 = true then (some false) else (some ((l0_4.length : Int) == 0)))) else (some false))) else (some false)) else (if a0_0 = 5 then (if a0_0 = 4 then (some true) else (if a0_3 = true then (some false) else (some ((l0_4.length : Int) == 0)))) else (if a0_2 = 0 then (if a0_0 = 4 then (some true) else (if a0_3 = true then (some false) else (some ((l0_4.length : Int) == 0)))) else (some false)))) else (some false))) = some r := h
  clear h
  replace H := Option.bind_eq_some_iff.mp H
  obtain ⟨t105, A20, H⟩ := H
  replace H : (if t105 = true then (if a0_0 = 0 then (if a0_1 = 0 then (if a0_0 = 5 then (if a0_0 = 4 then (some true) else (if a0_3 = true then (some false) else (some ((l0_4.length : Int) == 0)))) else (if a0_2 = 0 then (if a0_0 = 4 then (some true) else (if a0_3 = true then (some false) else (some ((l0_4.length : Int) == 0)))) else (some false))) else (some false)) else (if a0_0 = 5 then (if a0_0 = 4 then (some true) else (if a0_3 = true then (some false) else (some ((l0_4.length : Int) == 0)))) else (if a0_2 = 0 then (if a0_0 = 4 then (some true) else (if a0_3 = true then (some false) else (some ((l0_4.length : Int) == 0)))) else (some false)))) else (some false)) = some r := H
  have A2 := Aside0.mk A20
  clear A20
  by_cases c3 : t105 = true
  · subst c3
    have H1 : (if a0_0 = 0 then (if a0_1 = 0 then (if a0_0 = 5 then (if a0_0 = 4 then (some true) else (if a0_3 = true then (some false) else (some ((l0_4.length : Int) == 0)))) else (if a0_2 = 0 then (if a0_0 = 4 then (some true) else (if a0_3 = true then (some false) else (some ((l0_4.length : Int) == 0)))) else (some false))) else (some false)) else (if a0_0 = 5 then (if a0_0 = 4 then (some true) else (if a0_3 = true then (some false) else (some ((l0_4.length : Int) == 0)))) else (if a0_2 = 0 then (if a0_0 = 4 then (some true) else (if a0_3 = true then (some false) else (some ((l0_4.length : Int) == 0)))) else (some false)))) = some r := by rw [if_pos rfl] at H; exact H
    clear H
    have H := H1
    clear H1
    by_cases c4 : a0_0 = 0
    · rw [if_pos c4] at H
      have c4b0 : (a0_0 == 0) = true := beq_iff_eq.mpr c4
      have c4b1 : (a0_0 != 0) = false := bne_eq_false_iff_eq.mpr c4
      clear c4
      by_cases c5 : a0_1 = 0
      · rw [if_pos c5] at H
        have c5b0 : (a0_1 == 0) = true := beq_iff_eq.mpr c5
        have c5b1 : (a0_1 != 0) = false := bne_eq_false_iff_eq.mpr c5
        clear c5
        by_cases c6 : a0_0 = 5
        · rw [if_pos c6] at H
          have c6b0 : (a0_0 == 5) = true := beq_iff_eq.mpr c6
          have c6b1 : (a0_0 != 5) = false := bne_eq_false_iff_eq.mpr c6
          clear c6
          by_cases c7 : a0_0 = 4
          · rw [if_pos c7] at H
            have c7b0 : (a0_0 == 4) = true := beq_iff_eq.mpr c7
            have c7b1 : (a0_0 != 4) = false := bne_eq_false_iff_eq.mpr c7
            clear c7
            obtain rfl := Option.some.inj H
            have hcz8_0 : w.cell? ⟨gp0, 0, none⟩ = some (.int .i64 a0_0) := (blk_cell BK50.out 0).trans rfl
            have hcz8_1 : w.cell? ⟨gp0, 1, none⟩ = some (.int .i64 a0_1) := (blk_cell BK50.out 1).trans rfl
            have hcz8_2 : w.cell? ⟨gp0, 2, none⟩ = some (.int .i64 a0_2) := (blk_cell BK50.out 2).trans rfl
            have hcz8_3 : w.cell? ⟨gp0, 3, none⟩ = some (.bool a0_3) := (blk_cell BK50.out 3).trans rfl
            have hcz8_4 : w.cell? ⟨gp0, 4, none⟩ = some (.slice A0_4 l0_4.length c0_4) := (blk_cell BK50.out 4).trans rfl
            have hfz8_0 := blk_frozen BK50.out 0
            have hfz8_1 := blk_frozen BK50.out 1
            have hfz8_2 := blk_frozen BK50.out 2
            have hfz8_3 := blk_frozen BK50.out 3
            have hfz8_4 := blk_frozen BK50.out 4
            go_enter Tryd.func96, Tryd.ntmps96
            go_wp2_with (first | ((with_reducible refine gate_callee (f := 48) rfl ?_); refine goesL_ (some 7) rfl rfl Tryd.func48 (by kernel_rfl) rfl #[.int .i64 a0_0, .int .i64 0, .int .i64 5] rfl (by (try simp only [List.map_toArray, List.map_cons, List.map_nil]); first | done | rfl | (simp only [List.length_drop, List.length_take]; rfl)) ?_; (with_reducible refine (spec_l1In.calls a0_0 0 5 true _ A2.out).mono ?_); rintro e w' ⟨rfl, ⟨nd, rfl⟩⟩; refine ⟨_, rfl, ?_⟩))
            go_ret
            exact ⟨by first | rfl | (simp [errW_none, errW_some] <;> rfl) | (simp [*, errW_none, errW_some] <;> rfl), by repeat (first | (with_reducible first | exact HB.out | apply below_alloc | apply pw_below_drewN | apply below_drew1 | refine below_set ?_ GE50.out) | exact HB.out)⟩
          · rw [if_neg c7] at H
            have c7b0 : (a0_0 == 4) = false := beq_eq_false_iff_ne.mpr c7
            have c7b1 : (a0_0 != 4) = true := bne_iff_ne.mpr c7
            by_cases c9 : a0_3 = true
            · subst c9
              have H1 : (some false) = some r := by rw [if_pos rfl] at H; exact H
              clear H
              have H := H1
              clear H1
              obtain rfl := Option.some.inj H
              have hcz10_0 : w.cell? ⟨gp0, 0, none⟩ = some (.int .i64 a0_0) := (blk_cell BK50.out 0).trans rfl
              have hcz10_1 : w.cell? ⟨gp0, 1, none⟩ = some (.int .i64 a0_1) := (blk_cell BK50.out 1).trans rfl
              have hcz10_2 : w.cell? ⟨gp0, 2, none⟩ = some (.int .i64 a0_2) := (blk_cell BK50.out 2).trans rfl
              have hcz10_3 : w.cell? ⟨gp0, 3, none⟩ = some (.bool true) := (blk_cell BK50.out 3).trans rfl
              have hcz10_4 : w.cell? ⟨gp0, 4, none⟩ = some (.slice A0_4 l0_4.length c0_4) := (blk_cell BK50.out 4).trans rfl
              have hfz10_0 := blk_frozen BK50.out 0
              have hfz10_1 := blk_frozen BK50.out 1
              have hfz10_2 := blk_frozen BK50.out 2
              have hfz10_3 := blk_frozen BK50.out 3
              have hfz10_4 := blk_frozen BK50.out 4
              go_enter Tryd.func96, Tryd.ntmps96
              go_wp2_with (first | ((with_reducible refine gate_callee (f := 48) rfl ?_); refine goesL_ (some 7) rfl rfl Tryd.func48 (by kernel_rfl) rfl #[.int .i64 a0_0, .int .i64 0, .int .i64 5] rfl (by (try simp only [List.map_toArray, List.map_cons, List.map_nil]); first | done | rfl | (simp only [List.length_drop, List.length_take]; rfl)) ?_; (with_reducible refine (spec_l1In.calls a0_0 0 5 true _ A2.out).mono ?_); rintro e w' ⟨rfl, ⟨nd, rfl⟩⟩; refine ⟨_, rfl, ?_⟩))
              go_ret
              exact ⟨by first | rfl | (simp [errW_none, errW_some] <;> rfl) | (simp [*, errW_none, errW_some] <;> rfl), by repeat (first | (with_reducible first | exact HB.out | apply below_alloc | apply pw_below_drewN | apply below_drew1 | refine below_set ?_ GE50.out) | exact HB.out)⟩
            · replace c9 := Bool.eq_false_iff.mpr c9
              subst c9
              have H1 : (some ((l0_4.length : Int) == 0)) = some r := by rw [if_neg (show ¬ (false = true) by decide)] at H; exact H
              clear H
              have H := H1
              clear H1
              obtain rfl := Option.some.inj H
              have hcz11_0 : w.cell? ⟨gp0, 0, none⟩ = some (.int .i64 a0_0) := (blk_cell BK50.out 0).trans rfl
              have hcz11_1 : w.cell? ⟨gp0, 1, none⟩ = some (.int .i64 a0_1) := (blk_cell BK50.out 1).trans rfl
              have hcz11_2 : w.cell? ⟨gp0, 2, none⟩ = some (.int .i64 a0_2) := (blk_cell BK50.out 2).trans rfl
              have hcz11_3 : w.cell? ⟨gp0, 3, none⟩ = some (.bool false) := (blk_cell BK50.out 3).trans rfl
              have hcz11_4 : w.cell? ⟨gp0, 4, none⟩ = some (.slice A0_4 l0_4.length c0_4) := (blk_cell BK50.out 4).trans rfl
              have hfz11_0 := blk_frozen BK50.out 0
              have hfz11_1 := blk_frozen BK50.out 1
              have hfz11_2 := blk_frozen BK50.out 2
              have hfz11_3 := blk_frozen BK50.out 3
              have hfz11_4 := blk_frozen BK50.out 4
              go_enter Tryd.func96, Tryd.ntmps96
              go_wp2_with (first | ((with_reducible refine gate_callee (f := 48) rfl ?_); refine goesL_ (some 7) rfl rfl Tryd.func48 (by kernel_rfl) rfl #[.int .i64 a0_0, .int .i64 0, .int .i64 5] rfl (by (try simp only [List.map_toArray, List.map_cons, List.map_nil]); first | done | rfl | (simp only [List.length_drop, List.length_take]; rfl)) ?_; (with_reducible refine (spec_l1In.calls a0_0 0 5 true _ A2.out).mono ?_); rintro e w' ⟨rfl, ⟨nd, rfl⟩⟩; refine ⟨_, rfl, ?_⟩))
              go_ret
              exact ⟨by first | rfl | (simp [errW_none, errW_some] <;> rfl) | (simp [*, errW_none, errW_some] <;> rfl), by repeat (first | (with_reducible first | exact HB.out | apply below_alloc | apply pw_below_drewN | apply below_drew1 | refine below_set ?_ GE50.out) | exact HB.out)⟩
        · rw [if_neg c6] at H
          have c6b0 : (a0_0 == 5) = false := beq_eq_false_iff_ne.mpr c6
          have c6b1 : (a0_0 != 5) = true := bne_iff_ne.mpr c6
          by_cases c12 : a0_2 = 0
          · rw [if_pos c12] at H
            have c12b0 : (a0_2 == 0) = true := beq_iff_eq.mpr c12
            have c12b1 : (a0_2 != 0) = false := bne_eq_false_iff_eq.mpr c12
            clear c12
            by_cases c13 : a0_0 = 4
            · rw [if_pos c13] at H
              have c13b0 : (a0_0 == 4) = true := beq_iff_eq.mpr c13
              have c13b1 : (a0_0 != 4) = false := bne_eq_false_iff_eq.mpr c13
              clear c13
              obtain rfl := Option.some.inj H
              have hcz14_0 : w.cell? ⟨gp0, 0, none⟩ = some (.int .i64 a0_0) := (blk_cell BK50.out 0).trans rfl
              have hcz14_1 : w.cell? ⟨gp0, 1, none⟩ = some (.int .i64 a0_1) := (blk_cell BK50.out 1).trans rfl
              have hcz14_2 : w.cell? ⟨gp0, 2, none⟩ = some (.int .i64 a0_2) := (blk_cell BK50.out 2).trans rfl
              have hcz14_3 : w.cell? ⟨gp0, 3, none⟩ = some (.bool a0_3) := (blk_cell BK50.out 3).trans rfl
              have hcz14_4 : w.cell? ⟨gp0, 4, none⟩ = some (.slice A0_4 l0_4.length c0_4) := (blk_cell BK50.out 4).trans rfl
              have hfz14_0 := blk_frozen BK50.out 0
              have hfz14_1 := blk_frozen BK50.out 1
              have hfz14_2 := blk_frozen BK50.out 2
              have hfz14_3 := blk_frozen BK50.out 3
              have hfz14_4 := blk_frozen BK50.out 4
              go_enter Tryd.func96, Tryd.ntmps96
              go_wp2_with (first | ((with_reducible refine gate_callee (f := 48) rfl ?_); refine goesL_ (some 7) rfl rfl Tryd.func48 (by kernel_rfl) rfl #[.int .i64 a0_0, .int .i64 0, .int .i64 5] rfl (by (try simp only [List.map_toArray, List.map_cons, List.map_nil]); first | done | rfl | (simp only [List.length_drop, List.length_take]; rfl)) ?_; (with_reducible refine (spec_l1In.calls a0_0 0 5 true _ A2.out).mono ?_); rintro e w' ⟨rfl, ⟨nd, rfl⟩⟩; refine ⟨_, rfl, ?_⟩))
              go_ret
              exact ⟨by first | rfl | (simp [errW_none, errW_some] <;> rfl) | (simp [*, errW_none, errW_some] <;> rfl), by repeat (first | (with_reducible first | exact HB.out | apply below_alloc | apply pw_below_drewN | apply below_drew1 | refine below_set ?_ GE50.out) | exact HB.out)⟩
            · rw [if_neg c13] at H
              have c13b0 : (a0_0 == 4) = false := beq_eq_false_iff_ne.mpr c13
              have c13b1 : (a0_0 != 4) = true := bne_iff_ne.mpr c13
              by_cases c15 : a0_3 = true
              · subst c15
                have H1 : (some false) = some r := by rw [if_pos rfl] at H; exact H
                clear H
                have H := H1
                clear H1
                obtain rfl := Option.some.inj H
                have hcz16_0 : w.cell? ⟨gp0, 0, none⟩ = some (.int .i64 a0_0) := (blk_cell BK50.out 0).trans rfl
                have hcz16_1 : w.cell? ⟨gp0, 1, none⟩ = some (.int .i64 a0_1) := (blk_cell BK50.out 1).trans rfl
                have hcz16_2 : w.cell? ⟨gp0, 2, none⟩ = some (.int .i64 a0_2) := (blk_cell BK50.out 2).trans rfl
                have hcz16_3 : w.cell? ⟨gp0, 3, none⟩ = some (.bool true) := (blk_cell BK50.out 3).trans rfl
                have hcz16_4 : w.cell? ⟨gp0, 4, none⟩ = some (.slice A0_4 l0_4.length c0_4) := (blk_cell BK50.out 4).trans rfl
                have hfz16_0 := blk_frozen BK50.out 0
                have hfz16_1 := blk_frozen BK50.out 1
                have hfz16_2 := blk_frozen BK50.out 2
                have hfz16_3 := blk_frozen BK50.out 3
                have hfz16_4 := blk_frozen BK50.out 4
                go_enter Tryd.func96, Tryd.ntmps96
                go_wp2_with (first | ((with_reducible refine gate_callee (f := 48) rfl ?_); refine goesL_ (some 7) rfl rfl Tryd.func48 (by kernel_rfl) rfl #[.int .i64 a0_0, .int .i64 0, .int .i64 5] rfl (by (try simp only [List.map_toArray, List.map_cons, List.map_nil]); first | done | rfl | (simp only [List.length_drop, List.length_take]; rfl)) ?_; (with_reducible refine (spec_l1In.calls a0_0 0 5 true _ A2.out).mono ?_); rintro e w' ⟨rfl, ⟨nd, rfl⟩⟩; refine ⟨_, rfl, ?_⟩))
                go_ret
                exact ⟨by first | rfl | (simp [errW_none, errW_some] <;> rfl) | (simp [*, errW_none, errW_some] <;> rfl), by repeat (first | (with_reducible first | exact HB.out | apply below_alloc | apply pw_below_drewN | apply below_drew1 | refine below_set ?_ GE50.out) | exact HB.out)⟩
              · replace c15 := Bool.eq_false_iff.mpr c15
                subst c15
                have H1 : (some ((l0_4.length : Int) == 0)) = some r := by rw [if_neg (show ¬ (false = true) by decide)] at H; exact H
                clear H
                have H := H1
                clear H1
                obtain rfl := Option.some.inj H
                have hcz17_0 : w.cell? ⟨gp0, 0, none⟩ = some (.int .i64 a0_0) := (blk_cell BK50.out 0).trans rfl
                have hcz17_1 : w.cell? ⟨gp0, 1, none⟩ = some (.int .i64 a0_1) := (blk_cell BK50.out 1).trans rfl
                have hcz17_2 : w.cell? ⟨gp0, 2, none⟩ = some (.int .i64 a0_2) := (blk_cell BK50.out 2).trans rfl
                have hcz17_3 : w.cell? ⟨gp0, 3, none⟩ = some (.bool false) := (blk_cell BK50.out 3).trans rfl
                have hcz17_4 : w.cell? ⟨gp0, 4, none⟩ = some (.slice A0_4 l0_4.length c0_4) := (blk_cell BK50.out 4).trans rfl
                have hfz17_0 := blk_frozen BK50.out 0
                have hfz17_1 := blk_frozen BK50.out 1
                have hfz17_2 := blk_frozen BK50.out 2
                have hfz17_3 := blk_frozen BK50.out 3
                have hfz17_4 := blk_frozen BK50.out 4
                go_enter Tryd.func96, Tryd.ntmps96
                go_wp2_with (first | ((with_reducible refine gate_callee (f := 48) rfl ?_); refine goesL_ (some 7) rfl rfl Tryd.func48 (by kernel_rfl) rfl #[.int .i64 a0_0, .int .i64 0, .int .i64 5] rfl (by (try simp only [List.map_toArray, List.map_cons, List.map_nil]); first | done | rfl | (simp only [List.length_drop, List.length_take]; rfl)) ?_; (with_reducible refine (spec_l1In.calls a0_0 0 5 true _ A2.out).mono ?_); rintro e w' ⟨rfl, ⟨nd, rfl⟩⟩; refine ⟨_, rfl, ?_⟩))
                go_ret
                exact ⟨by first | rfl | (simp [errW_none, errW_some] <;> rfl) | (simp [*, errW_none, errW_some] <;> rfl), by repeat (first | (with_reducible first | exact HB.out | apply below_alloc | apply pw_below_drewN | apply below_drew1 | refine below_set ?_ GE50.out) | exact HB.out)⟩
          · rw [if_neg c12] at H
            have c12b0 : (a0_2 == 0) = false := beq_eq_false_iff_ne.mpr c12
            have c12b1 : (a0_2 != 0) = true := bne_iff_ne.mpr c12
            obtain rfl := Option.some.inj H
            have hcz18_0 : w.cell? ⟨gp0, 0, none⟩ = some (.int .i64 a0_0) := (blk_cell BK50.out 0).trans rfl
            have hcz18_1 : w.cell? ⟨gp0, 1, none⟩ = some (.int .i64 a0_1) := (blk_cell BK50.out 1).trans rfl
            have hcz18_2 : w.cell? ⟨gp0, 2, none⟩ = some (.int .i64 a0_2) := (blk_cell BK50.out 2).trans rfl
            have hcz18_3 : w.cell? ⟨gp0, 3, none⟩ = some (.bool a0_3) := (blk_cell BK50.out 3).trans rfl
            have hcz18_4 : w.cell? ⟨gp0, 4, none⟩ = some (.slice A0_4 l0_4.length c0_4) := (blk_cell BK50.out 4).trans rfl
            have hfz18_0 := blk_frozen BK50.out 0
            have hfz18_1 := blk_frozen BK50.out 1
            have hfz18_2 := blk_frozen BK50.out 2
            have hfz18_3 := blk_frozen BK50.out 3
            have hfz18_4 := blk_frozen BK50.out 4
            go_enter Tryd.func96, Tryd.ntmps96
            go_wp2_with (first | ((with_reducible refine gate_callee (f := 48) rfl ?_); refine goesL_ (some 7) rfl rfl Tryd.func48 (by kernel_rfl) rfl #[.int .i64 a0_0, .int .i64 0, .int .i64 5] rfl (by (try simp only [List.map_toArray, List.map_cons, List.map_nil]); first | done | rfl | (simp only [List.length_drop, List.length_take]; rfl)) ?_; (with_reducible refine (spec_l1In.calls a0_0 0 5 true _ A2.out).mono ?_); rintro e w' ⟨rfl, ⟨nd, rfl⟩⟩; refine ⟨_, rfl, ?_⟩))
            go_ret
            exact ⟨by first | rfl | (simp [errW_none, errW_some] <;> rfl) | (simp [*, errW_none, errW_some] <;> rfl), by repeat (first | (with_reducible first | exact HB.out | apply below_alloc | apply pw_below_drewN | apply below_drew1 | refine below_set ?_ GE50.out) | exact HB.out)⟩
      · rw [if_neg c5] at H
        have c5b0 : (a0_1 == 0) = false := beq_eq_false_iff_ne.mpr c5
        have c5b1 : (a0_1 != 0) = true := bne_iff_ne.mpr c5
        obtain rfl := Option.some.inj H
        have hcz19_0 : w.cell? ⟨gp0, 0, none⟩ = some (.int .i64 a0_0) := (blk_cell BK50.out 0).trans rfl
        have hcz19_1 : w.cell? ⟨gp0, 1, none⟩ = some (.int .i64 a0_1) := (blk_cell BK50.out 1).trans rfl
        have hcz19_2 : w.cell? ⟨gp0, 2, none⟩ = some (.int .i64 a0_2) := (blk_cell BK50.out 2).trans rfl
        have hcz19_3 : w.cell? ⟨gp0, 3, none⟩ = some (.bool a0_3) := (blk_cell BK50.out 3).trans rfl
        have hcz19_4 : w.cell? ⟨gp0, 4, none⟩ = some (.slice A0_4 l0_4.length c0_4) := (blk_cell BK50.out 4).trans rfl
        have hfz19_0 := blk_frozen BK50.out 0
        have hfz19_1 := blk_frozen BK50.out 1
        have hfz19_2 := blk_frozen BK50.out 2
        have hfz19_3 := blk_frozen BK50.out 3
        have hfz19_4 := blk_frozen BK50.out 4
        go_enter Tryd.func96, Tryd.ntmps96
        go_wp2_with (first | ((with_reducible refine gate_callee (f := 48) rfl ?_); refine goesL_ (some 7) rfl rfl Tryd.func48 (by kernel_rfl) rfl #[.int .i64 a0_0, .int .i64 0, .int .i64 5] rfl (by (try simp only [List.map_toArray, List.map_cons, List.map_nil]); first | done | rfl | (simp only [List.length_drop, List.length_take]; rfl)) ?_; (with_reducible refine (spec_l1In.calls a0_0 0 5 true _ A2.out).mono ?_); rintro e w' ⟨rfl, ⟨nd, rfl⟩⟩; refine ⟨_, rfl, ?_⟩))
        go_ret
        exact ⟨by first | rfl | (simp [errW_none, errW_some] <;> rfl) | (simp [*, errW_none, errW_some] <;> rfl), by repeat (first | (with_reducible first | exact HB.out | apply below_alloc | apply pw_below_drewN | apply below_drew1 | refine below_set ?_ GE50.out) | exact HB.out)⟩
    · rw [if_neg c4] at H
      have c4b0 : (a0_0 == 0) = false := beq_eq_false_iff_ne.mpr c4
      have c4b1 : (a0_0 != 0) = true := bne_iff_ne.mpr c4
      by_cases c20 : a0_0 = 5
      · rw [if_pos c20] at H
        have c20b0 : (a0_0 == 5) = true := beq_iff_eq.mpr c20
        have c20b1 : (a0_0 != 5) = false := bne_eq_false_iff_eq.mpr c20
        clear c20
        by_cases c21 : a0_0 = 4
        · rw [if_pos c21] at H
          have c21b0 : (a0_0 == 4) = true := beq_iff_eq.mpr c21
          have c21b1 : (a0_0 != 4) = false := bne_eq_false_iff_eq.mpr c21
          clear c21
          obtain rfl := Option.some.inj H
          have hcz22_0 : w.cell? ⟨gp0, 0, none⟩ = some (.int .i64 a0_0) := (blk_cell BK50.out 0).trans rfl
          have hcz22_1 : w.cell? ⟨gp0, 1, none⟩ = some (.int .i64 a0_1) := (blk_cell BK50.out 1).trans rfl
          have hcz22_2 : w.cell? ⟨gp0, 2, none⟩ = some (.int .i64 a0_2) := (blk_cell BK50.out 2).trans rfl
          have hcz22_3 : w.cell? ⟨gp0, 3, none⟩ = some (.bool a0_3) := (blk_cell BK50.out 3).trans rfl
          have hcz22_4 : w.cell? ⟨gp0, 4, none⟩ = some (.slice A0_4 l0_4.length c0_4) := (blk_cell BK50.out 4).trans rfl
          have hfz22_0 := blk_frozen BK50.out 0
          have hfz22_1 := blk_frozen BK50.out 1
          have hfz22_2 := blk_frozen BK50.out 2
          have hfz22_3 := blk_frozen BK50.out 3
          have hfz22_4 := blk_frozen BK50.out 4
          go_enter Tryd.func96, Tryd.ntmps96
          go_wp2_with (first | ((with_reducible refine gate_callee (f := 48) rfl ?_); refine goesL_ (some 7) rfl rfl Tryd.func48 (by kernel_rfl) rfl #[.int .i64 a0_0, .int .i64 0, .int .i64 5] rfl (by (try simp only [List.map_toArray, List.map_cons, List.map_nil]); first | done | rfl | (simp only [List.length_drop, List.length_take]; rfl)) ?_; (with_reducible refine (spec_l1In.calls a0_0 0 5 true _ A2.out).mono ?_); rintro e w' ⟨rfl, ⟨nd, rfl⟩⟩; refine ⟨_, rfl, ?_⟩))
          go_ret
          exact ⟨by first | rfl | (simp [errW_none, errW_some] <;> rfl) | (simp [*, errW_none, errW_some] <;> rfl), by repeat (first | (with_reducible first | exact HB.out | apply below_alloc | apply pw_below_drewN | apply below_drew1 | refine below_set ?_ GE50.out) | exact HB.out)⟩
        · rw [if_neg c21] at H
          have c21b0 : (a0_0 == 4) = false := beq_eq_false_iff_ne.mpr c21
          have c21b1 : (a0_0 != 4) = true := bne_iff_ne.mpr c21
          by_cases c23 : a0_3 = true
          · subst c23
            have H1 : (some false) = some r := by rw [if_pos rfl] at H; exact H
            clear H
            have H := H1
            clear H1
            obtain rfl := Option.some.inj H
            have hcz24_0 : w.cell? ⟨gp0, 0, none⟩ = some (.int .i64 a0_0) := (blk_cell BK50.out 0).trans rfl
            have hcz24_1 : w.cell? ⟨gp0, 1, none⟩ = some (.int .i64 a0_1) := (blk_cell BK50.out 1).trans rfl
            have hcz24_2 : w.cell? ⟨gp0, 2, none⟩ = some (.int .i64 a0_2) := (blk_cell BK50.out 2).trans rfl
            have hcz24_3 : w.cell? ⟨gp0, 3, none⟩ = some (.bool true) := (blk_cell BK50.out 3).trans rfl
            have hcz24_4 : w.cell? ⟨gp0, 4, none⟩ = some (.slice A0_4 l0_4.length c0_4) := (blk_cell BK50.out 4).trans rfl
            have hfz24_0 := blk_frozen BK50.out 0
            have hfz24_1 := blk_frozen BK50.out 1
            have hfz24_2 := blk_frozen BK50.out 2
            have hfz24_3 := blk_frozen BK50.out 3
            have hfz24_4 := blk_frozen BK50.out 4
            go_enter Tryd.func96, Tryd.ntmps96
            go_wp2_with (first | ((with_reducible refine gate_callee (f := 48) rfl ?_); refine goesL_ (some 7) rfl rfl Tryd.func48 (by kernel_rfl) rfl #[.int .i64 a0_0, .int .i64 0, .int .i64 5] rfl (by (try simp only [List.map_toArray, List.map_cons, List.map_nil]); first | done | rfl | (simp only [List.length_drop, List.length_take]; rfl)) ?_; (with_reducible refine (spec_l1In.calls a0_0 0 5 true _ A2.out).mono ?_); rintro e w' ⟨rfl, ⟨nd, rfl⟩⟩; refine ⟨_, rfl, ?_⟩))
            go_ret
            exact ⟨by first | rfl | (simp [errW_none, errW_some] <;> rfl) | (simp [*, errW_none, errW_some] <;> rfl), by repeat (first | (with_reducible first | exact HB.out | apply below_alloc | apply pw_below_drewN | apply below_drew1 | refine below_set ?_ GE50.out) | exact HB.out)⟩
          · replace c23 := Bool.eq_false_iff.mpr c23
            subst c23
            have H1 : (some ((l0_4.length : Int) == 0)) = some r := by rw [if_neg (show ¬ (false = true) by decide)] at H; exact H
            clear H
            have H := H1
            clear H1
            obtain rfl := Option.some.inj H
            have hcz25_0 : w.cell? ⟨gp0, 0, none⟩ = some (.int .i64 a0_0) := (blk_cell BK50.out 0).trans rfl
            have hcz25_1 : w.cell? ⟨gp0, 1, none⟩ = some (.int .i64 a0_1) := (blk_cell BK50.out 1).trans rfl
            have hcz25_2 : w.cell? ⟨gp0, 2, none⟩ = some (.int .i64 a0_2) := (blk_cell BK50.out 2).trans rfl
            have hcz25_3 : w.cell? ⟨gp0, 3, none⟩ = some (.bool false) := (blk_cell BK50.out 3).trans rfl
            have hcz25_4 : w.cell? ⟨gp0, 4, none⟩ = some (.slice A0_4 l0_4.length c0_4) := (blk_cell BK50.out 4).trans rfl
            have hfz25_0 := blk_frozen BK50.out 0
            have hfz25_1 := blk_frozen BK50.out 1
            have hfz25_2 := blk_frozen BK50.out 2
            have hfz25_3 := blk_frozen BK50.out 3
            have hfz25_4 := blk_frozen BK50.out 4
            go_enter Tryd.func96, Tryd.ntmps96
            go_wp2_with (first | ((with_reducible refine gate_callee (f := 48) rfl ?_); refine goesL_ (some 7) rfl rfl Tryd.func48 (by kernel_rfl) rfl #[.int .i64 a0_0, .int .i64 0, .int .i64 5] rfl (by (try simp only [List.map_toArray, List.map_cons, List.map_nil]); first | done | rfl | (simp only [List.length_drop, List.length_take]; rfl)) ?_; (with_reducible refine (spec_l1In.calls a0_0 0 5 true _ A2.out).mono ?_); rintro e w' ⟨rfl, ⟨nd, rfl⟩⟩; refine ⟨_, rfl, ?_⟩))
            go_ret
            exact ⟨by first | rfl | (simp [errW_none, errW_some] <;> rfl) | (simp [*, errW_none, errW_some] <;> rfl), by repeat (first | (with_reducible first | exact HB.out | apply below_alloc | apply pw_below_drewN | apply below_drew1 | refine below_set ?_ GE50.out) | exact HB.out)⟩
      · rw [if_neg c20] at H
        have c20b0 : (a0_0 == 5) = false := beq_eq_false_iff_ne.mpr c20
        have c20b1 : (a0_0 != 5) = true := bne_iff_ne.mpr c20
        by_cases c26 : a0_2 = 0
        · rw [if_pos c26] at H
          have c26b0 : (a0_2 == 0) = true := beq_iff_eq.mpr c26
          have c26b1 : (a0_2 != 0) = false := bne_eq_false_iff_eq.mpr c26
          clear c26
          by_cases c27 : a0_0 = 4
          · rw [if_pos c27] at H
            have c27b0 : (a0_0 == 4) = true := beq_iff_eq.mpr c27
            have c27b1 : (a0_0 != 4) = false := bne_eq_false_iff_eq.mpr c27
            clear c27
            obtain rfl := Option.some.inj H
            have hcz28_0 : w.cell? ⟨gp0, 0, none⟩ = some (.int .i64 a0_0) := (blk_cell BK50.out 0).trans rfl
            have hcz28_1 : w.cell? ⟨gp0, 1, none⟩ = some (.int .i64 a0_1) := (blk_cell BK50.out 1).trans rfl
            have hcz28_2 : w.cell? ⟨gp0, 2, none⟩ = some (.int .i64 a0_2) := (blk_cell BK50.out 2).trans rfl
            have hcz28_3 : w.cell? ⟨gp0, 3, none⟩ = some (.bool a0_3) := (blk_cell BK50.out 3).trans rfl
            have hcz28_4 : w.cell? ⟨gp0, 4, none⟩ = some (.slice A0_4 l0_4.length c0_4) := (blk_cell BK50.out 4).trans rfl
            have hfz28_0 := blk_frozen BK50.out 0
            have hfz28_1 := blk_frozen BK50.out 1
            have hfz28_2 := blk_frozen BK50.out 2
            have hfz28_3 := blk_frozen BK50.out 3
            have hfz28_4 := blk_frozen BK50.out 4
            go_enter Tryd.func96, Tryd.ntmps96
            go_wp2_with (first | ((with_reducible refine gate_callee (f := 48) rfl ?_); refine goesL_ (some 7) rfl rfl Tryd.func48 (by kernel_rfl) rfl #[.int .i64 a0_0, .int .i64 0, .int .i64 5] rfl (by (try simp only [List.map_toArray, List.map_cons, List.map_nil]); first | done | rfl | (simp only [List.length_drop, List.length_take]; rfl)) ?_; (with_reducible refine (spec_l1In.calls a0_0 0 5 true _ A2.out).mono ?_); rintro e w' ⟨rfl, ⟨nd, rfl⟩⟩; refine ⟨_, rfl, ?_⟩))
            go_ret
            exact ⟨by first | rfl | (simp [errW_none, errW_some] <;> rfl) | (simp [*, errW_none, errW_some] <;> rfl), by repeat (first | (with_reducible first | exact HB.out | apply below_alloc | apply pw_below_drewN | apply below_drew1 | refine below_set ?_ GE50.out) | exact HB.out)⟩
          · rw [if_neg c27] at H
            have c27b0 : (a0_0 == 4) = false := beq_eq_false_iff_ne.mpr c27
            have c27b1 : (a0_0 != 4) = true := bne_iff_ne.mpr c27
            by_cases c29 : a0_3 = true
            · subst c29
              have H1 : (some false) = some r := by rw [if_pos rfl] at H; exact H
              clear H
              have H := H1
              clear H1
              obtain rfl := Option.some.inj H
              have hcz30_0 : w.cell? ⟨gp0, 0, none⟩ = some (.int .i64 a0_0) := (blk_cell BK50.out 0).trans rfl
              have hcz30_1 : w.cell? ⟨gp0, 1, none⟩ = some (.int .i64 a0_1) := (blk_cell BK50.out 1).trans rfl
              have hcz30_2 : w.cell? ⟨gp0, 2, none⟩ = some (.int .i64 a0_2) := (blk_cell BK50.out 2).trans rfl
              have hcz30_3 : w.cell? ⟨gp0, 3, none⟩ = some (.bool true) := (blk_cell BK50.out 3).trans rfl
              have hcz30_4 : w.cell? ⟨gp0, 4, none⟩ = some (.slice A0_4 l0_4.length c0_4) := (blk_cell BK50.out 4).trans rfl
              have hfz30_0 := blk_frozen BK50.out 0
              have hfz30_1 := blk_frozen BK50.out 1
              have hfz30_2 := blk_frozen BK50.out 2
              have hfz30_3 := blk_frozen BK50.out 3
              have hfz30_4 := blk_frozen BK50.out 4
              go_enter Tryd.func96, Tryd.ntmps96
              go_wp2_with (first | ((with_reducible refine gate_callee (f := 48) rfl ?_); refine goesL_ (some 7) rfl rfl Tryd.func48 (by kernel_rfl) rfl #[.int .i64 a0_0, .int .i64 0, .int .i64 5] rfl (by (try simp only [List.map_toArray, List.map_cons, List.map_nil]); first | done | rfl | (simp only [List.length_drop, List.length_take]; rfl)) ?_; (with_reducible refine (spec_l1In.calls a0_0 0 5 true _ A2.out).mono ?_); rintro e w' ⟨rfl, ⟨nd, rfl⟩⟩; refine ⟨_, rfl, ?_⟩))
              go_ret
              exact ⟨by first | rfl | (simp [errW_none, errW_some] <;> rfl) | (simp [*, errW_none, errW_some] <;> rfl), by repeat (first | (with_reducible first | exact HB.out | apply below_alloc | apply pw_below_drewN | apply below_drew1 | refine below_set ?_ GE50.out) | exact HB.out)⟩
            · replace c29 := Bool.eq_false_iff.mpr c29
              subst c29
              have H1 : (some ((l0_4.length : Int) == 0)) = some r := by rw [if_neg (show ¬ (false = true) by decide)] at H; exact H
              clear H
              have H := H1
              clear H1
              obtain rfl := Option.some.inj H
              have hcz31_0 : w.cell? ⟨gp0, 0, none⟩ = some (.int .i64 a0_0) := (blk_cell BK50.out 0).trans rfl
              have hcz31_1 : w.cell? ⟨gp0, 1, none⟩ = some (.int .i64 a0_1) := (blk_cell BK50.out 1).trans rfl
              have hcz31_2 : w.cell? ⟨gp0, 2, none⟩ = some (.int .i64 a0_2) := (blk_cell BK50.out 2).trans rfl
              have hcz31_3 : w.cell? ⟨gp0, 3, none⟩ = some (.bool false) := (blk_cell BK50.out 3).trans rfl
              have hcz31_4 : w.cell? ⟨gp0, 4, none⟩ = some (.slice A0_4 l0_4.length c0_4) := (blk_cell BK50.out 4).trans rfl
              have hfz31_0 := blk_frozen BK50.out 0
              have hfz31_1 := blk_frozen BK50.out 1
              have hfz31_2 := blk_frozen BK50.out 2
              have hfz31_3 := blk_frozen BK50.out 3
              have hfz31_4 := blk_frozen BK50.out 4
              go_enter Tryd.func96, Tryd.ntmps96
              go_wp2_with (first | ((with_reducible refine gate_callee (f := 48) rfl ?_); refine goesL_ (some 7) rfl rfl Tryd.func48 (by kernel_rfl) rfl #[.int .i64 a0_0, .int .i64 0, .int .i64 5] rfl (by (try simp only [List.map_toArray, List.map_cons, List.map_nil]); first | done | rfl | (simp only [List.length_drop, List.length_take]; rfl)) ?_; (with_reducible refine (spec_l1In.calls a0_0 0 5 true _ A2.out).mono ?_); rintro e w' ⟨rfl, ⟨nd, rfl⟩⟩; refine ⟨_, rfl, ?_⟩))
              go_ret
              exact ⟨by first | rfl | (simp [errW_none, errW_some] <;> rfl) | (simp [*, errW_none, errW_some] <;> rfl), by repeat (first | (with_reducible first | exact HB.out | apply below_alloc | apply pw_below_drewN | apply below_drew1 | refine below_set ?_ GE50.out) | exact HB.out)⟩
        · rw [if_neg c26] at H
          have c26b0 : (a0_2 == 0) = false := beq_eq_false_iff_ne.mpr c26
          have c26b1 : (a0_2 != 0) = true := bne_iff_ne.mpr c26
          obtain rfl := Option.some.inj H
          have hcz32_0 : w.cell? ⟨gp0, 0, none⟩ = some (.int .i64 a0_0) := (blk_cell BK50.out 0).trans rfl
          have hcz32_1 : w.cell? ⟨gp0, 1, none⟩ = some (.int .i64 a0_1) := (blk_cell BK50.out 1).trans rfl
          have hcz32_2 : w.cell? ⟨gp0, 2, none⟩ = some (.int .i64 a0_2) := (blk_cell BK50.out 2).trans rfl
          have hcz32_3 : w.cell? ⟨gp0, 3, none⟩ = some (.bool a0_3) := (blk_cell BK50.out 3).trans rfl
          have hcz32_4 : w.cell? ⟨gp0, 4, none⟩ = some (.slice A0_4 l0_4.length c0_4) := (blk_cell BK50.out 4).trans rfl
          have hfz32_0 := blk_frozen BK50.out 0
          have hfz32_1 := blk_frozen BK50.out 1
          have hfz32_2 := blk_frozen BK50.out 2
          have hfz32_3 := blk_frozen BK50.out 3
          have hfz32_4 := blk_frozen BK50.out 4
          go_enter Tryd.func96, Tryd.ntmps96
          go_wp2_with (first | ((with_reducible refine gate_callee (f := 48) rfl ?_); refine goesL_ (some 7) rfl rfl Tryd.func48 (by kernel_rfl) rfl #[.int .i64 a0_0, .int .i64 0, .int .i64 5] rfl (by (try simp only [List.map_toArray, List.map_cons, List.map_nil]); first | done | rfl | (simp only [List.length_drop, List.length_take]; rfl)) ?_; (with_reducible refine (spec_l1In.calls a0_0 0 5 true _ A2.out).mono ?_); rintro e w' ⟨rfl, ⟨nd, rfl⟩⟩; refine ⟨_, rfl, ?_⟩))
          go_ret
          exact ⟨by first | rfl | (simp [errW_none, errW_some] <;> rfl) | (simp [*, errW_none, errW_some] <;> rfl), by repeat (first | (with_reducible first | exact HB.out | apply below_alloc | apply pw_below_drewN | apply below_drew1 | refine below_set ?_ GE50.out) | exact HB.out)⟩
  · replace c3 := Bool.eq_false_iff.mpr c3
    subst c3
    have H1 : (some false) = some r := by rw [if_neg (show ¬ (false = true) by decide)] at H; exact H
    clear H
    have H := H1
    clear H1
    obtain rfl := Option.some.inj H
    have hcz33_0 : w.cell? ⟨gp0, 0, none⟩ = some (.int .i64 a0_0) := (blk_cell BK50.out 0).trans rfl
    have hcz33_1 : w.cell? ⟨gp0, 1, none⟩ = some (.int .i64 a0_1) := (blk_cell BK50.out 1).trans rfl
    have hcz33_2 : w.cell? ⟨gp0, 2, none⟩ = some (.int .i64 a0_2) := (blk_cell BK50.out 2).trans rfl
    have hcz33_3 : w.cell? ⟨gp0, 3, none⟩ = some (.bool a0_3) := (blk_cell BK50.out 3).trans rfl
    have hcz33_4 : w.cell? ⟨gp0, 4, none⟩ = some (.slice A0_4 l0_4.length c0_4) := (blk_cell BK50.out 4).trans rfl
    have hfz33_0 := blk_frozen BK50.out 0
    have hfz33_1 := blk_frozen BK50.out 1
    have hfz33_2 := blk_frozen BK50.out 2
    have hfz33_3 := blk_frozen BK50.out 3
    have hfz33_4 := blk_frozen BK50.out 4
    go_enter Tryd.func96, Tryd.ntmps96
    go_wp2_with (first | ((with_reducible refine gate_callee (f := 48) rfl ?_); refine goesL_ (some 7) rfl rfl Tryd.func48 (by kernel_rfl) rfl #[.int .i64 a0_0, .int .i64 0, .int .i64 5] rfl (by (try simp only [List.map_toArray, List.map_cons, List.map_nil]); first | done | rfl | (simp only [List.length_drop, List.length_take]; rfl)) ?_; (with_reducible refine (spec_l1In.calls a0_0 0 5 false _ A2.out).mono ?_); rintro e w' ⟨rfl, ⟨nd, rfl⟩⟩; refine ⟨_, rfl, ?_⟩))
    go_ret
    exact ⟨by first | rfl | (simp [errW_none, errW_some] <;> rfl) | (simp [*, errW_none, errW_some] <;> rfl), by repeat (first | (with_reducible first | exact HB.out | apply below_alloc | apply pw_below_drewN | apply below_drew1 | refine below_set ?_ GE50.out) | exact HB.out)⟩

/-! ### spec_l1Char: function 49 -/
def spec_l1Char.f (a0 : Int) : Option (Bool) := (spec_l1In.f a0 0 55295).bind fun t106 => (if t106 = true then (some true) else ((spec_l1In.f a0 57344 65535).bind fun t107 => (some t107)))
set_option maxHeartbeats 8000000 in
set_option maxRecDepth 100000 in
theorem spec_l1Char.calls (a0 : Int) (r : Bool) (w : World) (h : spec_l1Char.f a0 = some r) :
    Calls Tryd.prog 49 #[.int .i64 a0] w fun e w' => e = .returned (.bool r) ∧ Drawn0 w w' := by
  have H : ((spec_l1In.f a0 0 55295).bind fun t106 => (if t106 = true then (some true) else ((spec_l1In.f a0 57344 65535).bind fun t107 => (some t107)))) = some r := h
  clear h
  replace H := Option.bind_eq_some_iff.mp H
  obtain ⟨t106, A20, H⟩ := H
  replace H : (if t106 = true then (some true) else ((spec_l1In.f a0 57344 65535).bind fun t107 => (some t107))) = some r := H
  have A2 := Aside0.mk A20
  clear A20
  by_cases c3 : t106 = true
  · subst c3
    have H1 : (some true) = some r := by rw [if_pos rfl] at H; exact H
    clear H
    have H := H1
    clear H1
    obtain rfl := Option.some.inj H
    go_enter Tryd.func49, Tryd.ntmps49
    go_wp2_with (first | ((with_reducible refine gate_callee (f := 48) rfl ?_); refine goesL_ (some 4) rfl rfl Tryd.func48 (by kernel_rfl) rfl #[.int .i64 a0, .int .i64 0, .int .i64 55295] rfl (by (try simp only [List.map_toArray, List.map_cons, List.map_nil]); first | done | rfl | (simp only [List.length_drop, List.length_take]; rfl)) ?_; (with_reducible refine (spec_l1In.calls a0 0 55295 true _ A2.out).mono ?_); rintro e w' ⟨rfl, ⟨nd, rfl⟩⟩; refine ⟨_, rfl, ?_⟩))
    go_ret
    exact ⟨by first | rfl | (simp; done) | (simp [*]; done), by repeat (first | exact Drawn0.refl _ | apply Drawn0.step)⟩
  · replace c3 := Bool.eq_false_iff.mpr c3
    subst c3
    have H1 : ((spec_l1In.f a0 57344 65535).bind fun t107 => (some t107)) = some r := by rw [if_neg (show ¬ (false = true) by decide)] at H; exact H
    clear H
    have H := H1
    clear H1
    replace H := Option.bind_eq_some_iff.mp H
    obtain ⟨t107, A40, H⟩ := H
    replace H : (some t107) = some r := H
    have A4 := Aside0.mk A40
    clear A40
    obtain rfl := Option.some.inj H
    go_enter Tryd.func49, Tryd.ntmps49
    go_wp2_with (first | ((with_reducible refine gate_callee (f := 48) rfl ?_); refine goesL_ (some 4) rfl rfl Tryd.func48 (by kernel_rfl) rfl #[.int .i64 a0, .int .i64 0, .int .i64 55295] rfl (by (try simp only [List.map_toArray, List.map_cons, List.map_nil]); first | done | rfl | (simp only [List.length_drop, List.length_take]; rfl)) ?_; (with_reducible refine (spec_l1In.calls a0 0 55295 false _ A2.out).mono ?_); rintro e w' ⟨rfl, ⟨nd, rfl⟩⟩; refine ⟨_, rfl, ?_⟩) | (go_at_call 48; (with_reducible refine (spec_l1In.calls a0 57344 65535 t107 _ A4.out).mono ?_); rintro e w' ⟨rfl, ⟨nd, rfl⟩⟩))
    go_ret
    exact ⟨by first | rfl | (simp; done) | (simp [*]; done), by repeat (first | exact Drawn0.refl _ | apply Drawn0.step)⟩

/-! ### spec_l4Shown: function 113 -/
def spec_l4Shown.f (a0 : Int) : Option (Bool) := (spec_l1Char.f a0).bind fun t108 => (if t108 = true then (if a0 ≥ 32 then (some (a0 != 127)) else (some false)) else (some false))
set_option maxHeartbeats 8000000 in
set_option maxRecDepth 100000 in
theorem spec_l4Shown.calls (a0 : Int) (r : Bool) (w : World) (h : spec_l4Shown.f a0 = some r) :
    Calls Tryd.prog 113 #[.int .i64 a0] w fun e w' => e = .returned (.bool r) ∧ Drawn0 w w' := by
  have H : ((spec_l1Char.f a0).bind fun t108 => (if t108 = true then (if a0 ≥ 32 then (some (a0 != 127)) else (some false)) else (some false))) = some r := h
  clear h
  replace H := Option.bind_eq_some_iff.mp H
  obtain ⟨t108, A20, H⟩ := H
  replace H : (if t108 = true then (if a0 ≥ 32 then (some (a0 != 127)) else (some false)) else (some false)) = some r := H
  have A2 := Aside0.mk A20
  clear A20
  by_cases c3 : t108 = true
  · subst c3
    have H1 : (if a0 ≥ 32 then (some (a0 != 127)) else (some false)) = some r := by rw [if_pos rfl] at H; exact H
    clear H
    have H := H1
    clear H1
    by_cases c4 : a0 ≥ 32
    · rw [if_pos c4] at H
      have c4b0 : decide (32 ≤ a0) = true := decide_eq_true c4
      clear c4
      obtain rfl := Option.some.inj H
      go_enter Tryd.func113, Tryd.ntmps113
      go_wp2_with (first | ((with_reducible refine gate_callee (f := 49) rfl ?_); refine goesL_ (some 4) rfl rfl Tryd.func49 (by kernel_rfl) rfl #[.int .i64 a0] rfl (by (try simp only [List.map_toArray, List.map_cons, List.map_nil]); first | done | rfl | (simp only [List.length_drop, List.length_take]; rfl)) ?_; (with_reducible refine (spec_l1Char.calls a0 true _ A2.out).mono ?_); rintro e w' ⟨rfl, ⟨nd, rfl⟩⟩; refine ⟨_, rfl, ?_⟩))
      go_ret
      exact ⟨by first | rfl | (simp; done) | (simp [*]; done), by repeat (first | exact Drawn0.refl _ | apply Drawn0.step)⟩
    · rw [if_neg c4] at H
      have c4b0 : decide (32 ≤ a0) = false := decide_eq_false c4
      clear c4
      obtain rfl := Option.some.inj H
      go_enter Tryd.func113, Tryd.ntmps113
      go_wp2_with (first | ((with_reducible refine gate_callee (f := 49) rfl ?_); refine goesL_ (some 4) rfl rfl Tryd.func49 (by kernel_rfl) rfl #[.int .i64 a0] rfl (by (try simp only [List.map_toArray, List.map_cons, List.map_nil]); first | done | rfl | (simp only [List.length_drop, List.length_take]; rfl)) ?_; (with_reducible refine (spec_l1Char.calls a0 true _ A2.out).mono ?_); rintro e w' ⟨rfl, ⟨nd, rfl⟩⟩; refine ⟨_, rfl, ?_⟩))
      go_ret
      exact ⟨by first | rfl | (simp; done) | (simp [*]; done), by repeat (first | exact Drawn0.refl _ | apply Drawn0.step)⟩
  · replace c3 := Bool.eq_false_iff.mpr c3
    subst c3
    have H1 : (some false) = some r := by rw [if_neg (show ¬ (false = true) by decide)] at H; exact H
    clear H
    have H := H1
    clear H1
    obtain rfl := Option.some.inj H
    go_enter Tryd.func113, Tryd.ntmps113
    go_wp2_with (first | ((with_reducible refine gate_callee (f := 49) rfl ?_); refine goesL_ (some 4) rfl rfl Tryd.func49 (by kernel_rfl) rfl #[.int .i64 a0] rfl (by (try simp only [List.map_toArray, List.map_cons, List.map_nil]); first | done | rfl | (simp only [List.length_drop, List.length_take]; rfl)) ?_; (with_reducible refine (spec_l1Char.calls a0 false _ A2.out).mono ?_); rintro e w' ⟨rfl, ⟨nd, rfl⟩⟩; refine ⟨_, rfl, ?_⟩))
    go_ret
    exact ⟨by first | rfl | (simp; done) | (simp [*]; done), by repeat (first | exact Drawn0.refl _ | apply Drawn0.step)⟩

end Go.Proofs.YtpoafgokngpglaaDoor.PFnExactActionText
