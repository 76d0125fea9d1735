-- Written for this claim by a program of this session's (wip/p2.sh).
import Derived.Test.YtpoafgokngpglaaDoorPFnWaysx0
import Derived.Test.YtpoafgokngpglaaDoorQfShort
import Derived.Test.YtpoafgokngpglaaDoorPFnWaysx1
import Derived.Test.YtpoafgokngpglaaDoorPFnWaysx2
import Derived.Test.YtpoafgokngpglaaDoorPFnWaysx5
import Derived.Test.YtpoafgokngpglaaDoorPFnWaysx9
import Derived.Test.YtpoafgokngpglaaDoorPFnWaysx11
import Derived.Test.YtpoafgokngpglaaDoorPFnWaysx12
import Derived.Test.YtpoafgokngpglaaDoorPw
import Derived.Test.YtpoafgokngpglaaDoorPFnWaysx13
namespace Go.Proofs.YtpoafgokngpglaaDoor.PFnWays
open Go.Proofs.YtpoafgokngpglaaDoorPw Go.RowKit Go.Proofs.YtpoafgokngpglaaDoorW.PrintWords Go.Proofs.YtpoafgokngpglaaDoorW.PrintLast Go.Proofs.YtpoafgokngpglaaDoorW.PrintMore Go.Proofs.YtpoafgokngpglaaDoorShort
attribute [local go_sem] max2_int min2_int max_two min_two max_three min_three max_four min_four   -- for this text's walks alone
attribute [local go_sem] fld34_0 fld34_1 fld39_0 fld39_1 fld46_0 fld46_1
set_option linter.unusedVariables false
set_option linter.unusedSimpArgs false

attribute [local go_sem high] eqA41
theorem hide_B {p : Prop} (h : ∀ g : Prop, (p → g) → g) : p := h p id
set_option maxHeartbeats 8000000 in
set_option maxRecDepth 100000 in
theorem laws_FnWays.callsB (k : Nat) (A0 : Option Addr) (c0 : Nat) (l0 : List Int) (w : World) (hr0 : Kd.C (Kd.int .u8) w A0 l0.length l0) (hc0 : l0.length ≤ c0) (hG : Go.Proofs.YtpoafgokngpglaaDoorPw.TabP w) (hq : ∀ (t : ByteArray) y, spec_DrawParseWay.f k l0 = some t → impl_ParseWay.f k t = some y → ¬ y.1 = 0) (h : laws_FnWays.f k l0 = some true) :
  Calls Tryd.prog 7 #[.slice A0 l0.length c0] w fun e w' => e = .returned (.bool true) ∧ Below w.heap.size w w' := by
 have HQ := Aside0.mk hq
 clear hq
 have hu46 := Tryd.underlying46
 have hu41 := Tryd.underlying41
 have hu34 := Tryd.underlying34
 have hu39 := Tryd.underlying39
 have HR0 := Aside0.mk hr0
 have HC0 := Aside0.mk hc0
 clear hr0 hc0
 have HB := Aside0.mk (Below.refl w.heap.size w)
 have H : ((laws_lwBig.f l0).bind fun t456 => (if t456 = true then (some true) else ((spec_DrawParseWay.f k l0).bind fun t457 => ((impl_ParseWay.f k t457).bind fun bt458 => ((spec_ParseWay.f k t457).bind fun bt467 => (if bt458.1 = bt467.1 then (if bt458.1 = 0 then ((impl_WayText.f k bt458.2.1 bt458.2.2.1 bt458.2.2.2.1 bt458.2.2.2.2.1 bt458.2.2.2.2.2.1 bt458.2.2.2.2.2.2.1 bt458.2.2.2.2.2.2.2).bind fun bt475 => (if bt475.2.toList = t457.toList then ((spec_DrawHasFlag.f l0).bind fun bt477 => ((impl_HasFlag.f k bt477.1 bt477.2.1 bt477.2.2.1 bt477.2.2.2.1 bt477.2.2.2.2.1 bt477.2.2.2.2.2.1 bt477.2.2.2.2.2.2.1 bt477.2.2.2.2.2.2.2).bind fun t486 => ((spec_HasFlag.f k bt477.1 bt477.2.1 bt477.2.2.1 bt477.2.2.2.1 bt477.2.2.2.2.1 bt477.2.2.2.2.2.1 bt477.2.2.2.2.2.2.1 bt477.2.2.2.2.2.2.2).bind fun t487 => (if (t486 != t487) = true then (some false) else ((spec_DrawShownByte.f l0).bind fun bt488 => ((impl_ShownByte.f k bt488.1 bt488.2.1 bt488.2.2.1 bt488.2.2.2.1 bt488.2.2.2.2.1 bt488.2.2.2.2.2.1 bt488.2.2.2.2.2.2.1 bt488.2.2.2.2.2.2.2).bind fun bt497 => ((spec_ShownByte.f k bt488.1 bt488.2.1 bt488.2.2.1 bt488.2.2.2.1 bt488.2.2.2.2.1 bt488.2.2.2.2.2.1 bt488.2.2.2.2.2.2.1 bt488.2.2.2.2.2.2.2).bind fun bt502 => (if bt497.1 = bt502.1 then ((spec_ShownByte.f k bt488.1 bt488.2.1 bt488.2.2.1 bt488.2.2.2.1 bt488.2.2.2.2.1 bt488.2.2.2.2.2.1 bt488.2.2.2.2.2.2.1 bt488.2.2.2.2.2.2.2).bind fun bt506 => ((laws_lwSame.f bt497.2 bt506.2).bind fun t510 => (if t510 = true then ((spec_DrawUsualWay.f l0).bind fun t511 => ((impl_UsualWay.f t511).bind fun bt512 => (if bt512.1 = 0 then ((impl_WayText.f k bt512.2.1 bt512.2.2.1 bt512.2.2.2.1 bt512.2.2.2.2.1 bt512.2.2.2.2.2.1 bt512.2.2.2.2.2.2.1 bt512.2.2.2.2.2.2.2).bind fun bt521 => ((impl_WayFault.f k bt512.2.1 bt512.2.2.1 bt512.2.2.2.1 bt512.2.2.2.2.1 bt512.2.2.2.2.2.1 bt512.2.2.2.2.2.2.1 bt512.2.2.2.2.2.2.2).bind fun t524 => (if t524 = 0 then (if bt512.2.1 = t511 then (if bt521.1 = 0 then ((impl_ParseWay.f k bt521.2).bind fun bt525 => (if (bt525.2.1 == bt512.2.1 && (bt525.2.2.1 == bt512.2.2.1 && (bt525.2.2.2.1 == bt512.2.2.2.1 && (bt525.2.2.2.2.1 == bt512.2.2.2.2.1 && (bt525.2.2.2.2.2.1 == bt512.2.2.2.2.2.1 && (bt525.2.2.2.2.2.2.1 == bt512.2.2.2.2.2.2.1 && (bt525.2.2.2.2.2.2.2 == bt512.2.2.2.2.2.2.2))))))) = true then ((impl_HasFlag.f k bt512.2.1 bt512.2.2.1 bt512.2.2.2.1 bt512.2.2.2.2.1 bt512.2.2.2.2.2.1 bt512.2.2.2.2.2.2.1 bt512.2.2.2.2.2.2.2 2).bind fun t533 => (some (t533 == (decide ((Int.tmod t511 4) ≥ 2))))) else (some false))) else (some false)) else (some false)) else (some false)))) else ((spec_UsualWay.f t511).bind fun bt534 => (some (bt534.1 == bt512.1)))))) else (some false)))) else (some false))))))))) else (some false))) else ((spec_DrawHasFlag.f l0).bind fun bt542 => ((impl_HasFlag.f k bt542.1 bt542.2.1 bt542.2.2.1 bt542.2.2.2.1 bt542.2.2.2.2.1 bt542.2.2.2.2.2.1 bt542.2.2.2.2.2.2.1 bt542.2.2.2.2.2.2.2).bind fun t551 => ((spec_HasFlag.f k bt542.1 bt542.2.1 bt542.2.2.1 bt542.2.2.2.1 bt542.2.2.2.2.1 bt542.2.2.2.2.2.1 bt542.2.2.2.2.2.2.1 bt542.2.2.2.2.2.2.2).bind fun t552 => (if (t551 != t552) = true then (some false) else ((spec_DrawShownByte.f l0).bind fun bt553 => ((impl_ShownByte.f k bt553.1 bt553.2.1 bt553.2.2.1 bt553.2.2.2.1 bt553.2.2.2.2.1 bt553.2.2.2.2.2.1 bt553.2.2.2.2.2.2.1 bt553.2.2.2.2.2.2.2).bind fun bt562 => ((spec_ShownByte.f k bt553.1 bt553.2.1 bt553.2.2.1 bt553.2.2.2.1 bt553.2.2.2.2.1 bt553.2.2.2.2.2.1 bt553.2.2.2.2.2.2.1 bt553.2.2.2.2.2.2.2).bind fun bt567 => (if bt562.1 = bt567.1 then ((spec_ShownByte.f k bt553.1 bt553.2.1 bt553.2.2.1 bt553.2.2.2.1 bt553.2.2.2.2.1 bt553.2.2.2.2.2.1 bt553.2.2.2.2.2.2.1 bt553.2.2.2.2.2.2.2).bind fun bt571 => ((laws_lwSame.f bt562.2 bt571.2).bind fun t575 => (if t575 = true then ((spec_DrawUsualWay.f l0).bind fun t576 => ((impl_UsualWay.f t576).bind fun bt577 => (if bt577.1 = 0 then ((impl_WayText.f k bt577.2.1 bt577.2.2.1 bt577.2.2.2.1 bt577.2.2.2.2.1 bt577.2.2.2.2.2.1 bt577.2.2.2.2.2.2.1 bt577.2.2.2.2.2.2.2).bind fun bt586 => ((impl_WayFault.f k bt577.2.1 bt577.2.2.1 bt577.2.2.2.1 bt577.2.2.2.2.1 bt577.2.2.2.2.2.1 bt577.2.2.2.2.2.2.1 bt577.2.2.2.2.2.2.2).bind fun t589 => (if t589 = 0 then (if bt577.2.1 = t576 then (if bt586.1 = 0 then ((impl_ParseWay.f k bt586.2).bind fun bt590 => (if (bt590.2.1 == bt577.2.1 && (bt590.2.2.1 == bt577.2.2.1 && (bt590.2.2.2.1 == bt577.2.2.2.1 && (bt590.2.2.2.2.1 == bt577.2.2.2.2.1 && (bt590.2.2.2.2.2.1 == bt577.2.2.2.2.2.1 && (bt590.2.2.2.2.2.2.1 == bt577.2.2.2.2.2.2.1 && (bt590.2.2.2.2.2.2.2 == bt577.2.2.2.2.2.2.2))))))) = true then ((impl_HasFlag.f k bt577.2.1 bt577.2.2.1 bt577.2.2.2.1 bt577.2.2.2.2.1 bt577.2.2.2.2.2.1 bt577.2.2.2.2.2.2.1 bt577.2.2.2.2.2.2.2 2).bind fun t598 => (some (t598 == (decide ((Int.tmod t576 4) ≥ 2))))) else (some false))) else (some false)) else (some false)) else (some false)))) else ((spec_UsualWay.f t576).bind fun bt599 => (some (bt599.1 == bt577.1)))))) else (some false)))) else (some false)))))))))) else (some false))))))) = some true := h
 clear h
 replace H := Option.bind_eq_some_iff.mp H
 obtain ⟨t456, A20, H⟩ := H
 (try dsimp only at H)
 have A2 := Aside0.mk A20
 clear A20
 by_cases c3 : t456 = true
 ·subst c3
  rw [if_pos rfl] at H
  go_enter Tryd.func7, Tryd.ntmps7
  go_wp2_with (first | ((with_reducible refine gate_callee (f := 13) rfl ?_); refine goesL_ (some 14) rfl rfl Tryd.func13 (by kernel_rfl) rfl #[.slice A0 l0.length c0] rfl (by (try simp only [List.map_toArray, List.map_cons, List.map_nil]); first | done | rfl | (simp only [List.length_drop, List.length_take]; rfl)) ?_; (with_reducible refine (laws_lwBig.calls _ _ l0 true _ ?side1 ?side2 A2.out).mono ?_); (case side1 => repeat (first | exact HR0.out | (with_reducible refine Kd.C_alloc ?_ _) | (with_reducible refine Kd.C_drewN ?_ _) | (with_reducible refine Kd.C_drew ?_))); (case side2 => exact HC0.out); rintro e w' ⟨rfl, ⟨nd, rfl⟩⟩; refine ⟨_, rfl, ?_⟩))
  go_ret
  exact ⟨by first | rfl | (simp [errW_none, errW_some] <;> rfl) | (simp [*, errW_none, errW_some] <;> rfl), by repeat (first | (with_reducible first | exact HB.out | apply below_alloc | apply pw_below_drewN | apply below_drew1) | exact HB.out)⟩
 ·replace c3 := Bool.eq_false_iff.mpr c3
  subst c3
  rw [if_neg (show ¬ (false = true) by decide)] at H
  replace H := Option.bind_eq_some_iff.mp H
  obtain ⟨t457, A40, H⟩ := H
  (try dsimp only at H)
  have A4 := Aside0.mk A40
  clear A40
  replace H := Option.bind_eq_some_iff.mp H
  obtain ⟨⟨t458, t459, t460, t461, t462, t463, t464, t465⟩, A50, H⟩ := H
  (try dsimp only at H)
  have A5 := Aside0.mk A50
  clear A50
  replace H := Option.bind_eq_some_iff.mp H
  obtain ⟨⟨t467, t468, t469, t470, t471, t472, t473, t474⟩, A60, H⟩ := H
  (try dsimp only at H)
  have A6 := Aside0.mk A60
  clear A60
  by_cases c7 : t458 = t467
  ·rw [if_pos c7] at H
   have c7b0 : (t458 == t467) = true := beq_iff_eq.mpr c7
   have c7b1 : (t458 != t467) = false := bne_eq_false_iff_eq.mpr c7
   clear c7
   by_cases c8 : t458 = 0
   · exact absurd c8 (HQ.out _ _ A4.out A5.out)
   ·rw [if_neg c8] at H
    have c8b0 : (t458 == 0) = false := beq_eq_false_iff_ne.mpr c8
    have c8b1 : (t458 != 0) = true := bne_iff_ne.mpr c8
    replace H := Option.bind_eq_some_iff.mp H
    obtain ⟨⟨t542, t543, t544, t545, t546, t547, t548, t549⟩, A1350, H⟩ := H
    (try dsimp only at H)
    have A135 := Aside0.mk A1350
    clear A1350
    replace H := Option.bind_eq_some_iff.mp H
    obtain ⟨t551, A1360, H⟩ := H
    (try dsimp only at H)
    have A136 := Aside0.mk A1360
    clear A1360
    replace H := Option.bind_eq_some_iff.mp H
    obtain ⟨t552, A1370, H⟩ := H
    (try dsimp only at H)
    have A137 := Aside0.mk A1370
    clear A1370
    by_cases c138 : (t551 != t552) = true
    ·rw [if_pos c138] at H
     have c138b0 : (t551 != t552) = true := c138
     (try (have c138b1 : decide (t551 = t552) = false := by simpa using c138))
     (try (have c138b2 : (t551 == t552) = false := by simpa using c138))
     (try (have c138b3 : ¬ (t551 = t552) := by simpa using c138))
     clear c138
     exact absurd H (by simp)
    ·rw [if_neg c138] at H
     have c138b0 : (t551 != t552) = false := by simpa using c138
     (try (have c138b1 : decide (t551 = t552) = true := by simpa using c138))
     (try (have c138b2 : (t551 == t552) = true := by simpa using c138))
     clear c138
     replace H := Option.bind_eq_some_iff.mp H
     obtain ⟨⟨t553, t554, t555, t556, t557, t558, t559, t560⟩, A1390, H⟩ := H
     (try dsimp only at H)
     have A139 := Aside0.mk A1390
     clear A1390
     replace H := Option.bind_eq_some_iff.mp H
     obtain ⟨⟨t562, t563⟩, A1400, H⟩ := H
     (try dsimp only at H)
     have A140 := Aside0.mk A1400
     clear A1400
     replace H := Option.bind_eq_some_iff.mp H
     obtain ⟨⟨t567, t568⟩, A1410, H⟩ := H
     (try dsimp only at H)
     have A141 := Aside0.mk A1410
     clear A1410
     by_cases c142 : t562 = t567
     ·rw [if_pos c142] at H
      have c142b0 : (t562 == t567) = true := beq_iff_eq.mpr c142
      have c142b1 : (t562 != t567) = false := bne_eq_false_iff_eq.mpr c142
      clear c142
      replace H := Option.bind_eq_some_iff.mp H
      obtain ⟨⟨t571, t572⟩, A1430, H⟩ := H
      (try dsimp only at H)
      have A143 := Aside0.mk A1430
      clear A1430
      replace H := Option.bind_eq_some_iff.mp H
      obtain ⟨t575, A1440, H⟩ := H
      (try dsimp only at H)
      have A144 := Aside0.mk A1440
      clear A1440
      by_cases c145 : t575 = true
      ·subst c145
       rw [if_pos rfl] at H
       replace H := Option.bind_eq_some_iff.mp H
       obtain ⟨t576, A1460, H⟩ := H
       (try dsimp only at H)
       have A146 := Aside0.mk A1460
       clear A1460
       replace H := Option.bind_eq_some_iff.mp H
       obtain ⟨⟨t577, t578, t579, t580, t581, t582, t583, t584⟩, A1470, H⟩ := H
       (try dsimp only at H)
       have A147 := Aside0.mk A1470
       clear A1470
       have HH_ := Aside0.mk H
       clear H
       go_enter Tryd.func7, Tryd.ntmps7
       try go_wp2_with (first | ((with_reducible refine gate_callee (f := 13) rfl ?_); refine goesL_ (some 14) rfl rfl Tryd.func13 (by kernel_rfl) rfl #[.slice A0 l0.length c0] rfl (by (try simp only [List.map_toArray, List.map_cons, List.map_nil]); first | done | rfl | (simp only [List.length_drop, List.length_take]; rfl)) ?_; (with_reducible refine (laws_lwBig.calls _ _ l0 false _ ?side1 ?side2 A2.out).mono ?_); (case side1 => repeat (first | exact HR0.out | (with_reducible refine Kd.C_alloc ?_ _) | (with_reducible refine Kd.C_drewN ?_ _) | (with_reducible refine Kd.C_drew ?_))); (case side2 => exact HC0.out); rintro e w' ⟨rfl, ⟨nd, rfl⟩⟩; refine ⟨_, rfl, ?_⟩) | ((with_reducible refine gate_callee (f := 26) rfl ?_); refine goesL_ (some 16) rfl rfl Tryd.func26 (by kernel_rfl) rfl #[.slice A0 l0.length c0] rfl (by (try simp only [List.map_toArray, List.map_cons, List.map_nil]); first | done | rfl | (simp only [List.length_drop, List.length_take]; rfl)) ?_; (with_reducible refine (spec_DrawParseWay.calls k _ _ l0 t457 _ ?side1 ?side2 A4.out).mono ?_); (case side1 => repeat (first | exact HR0.out | (with_reducible refine Kd.C_alloc ?_ _) | (with_reducible refine Kd.C_drewN ?_ _) | (with_reducible refine Kd.C_drew ?_))); (case side2 => exact HC0.out); rintro e w157 ⟨rfl, hb⟩; refine ⟨_, rfl, ?_⟩; have n0_ := Aside0.mk (below_step (by repeat (first | (with_reducible first | exact HB.out | apply below_alloc | apply pw_below_drewN | apply below_drew1) | exact HB.out)) hb); clear HB; have HB := n0_; clear n0_; (try clear hb); (try clear hb2); (try clear hk); (try clear hi)) | ((with_reducible refine gate_callee (f := 24) rfl ?_); refine goesL_ (some 18) rfl rfl Tryd.func24 (by kernel_rfl) rfl #[.string t457] rfl (by (try simp only [List.map_toArray, List.map_cons, List.map_nil]); first | done | rfl | (simp only [List.length_drop, List.length_take]; rfl)) ?_; (refine (impl_ParseWay.calls k t457 t458 t459 t460 t461 t462 t463 t464 t465 _ (Go.Proofs.YtpoafgokngpglaaDoorPw.TabP_below hG (by repeat (first | (with_reducible first | exact HB.out | apply below_alloc | apply pw_below_drewN | apply below_drew1) | exact HB.out))) A5.out).mono ?_); rintro e w158 ⟨rfl, hb⟩; refine ⟨_, rfl, ?_⟩; have n0_ := Aside0.mk (below_step (by repeat (first | (with_reducible first | exact HB.out | apply below_alloc | apply pw_below_drewN | apply below_drew1) | exact HB.out)) hb); clear HB; have HB := n0_; clear n0_; (try clear hb); (try clear hb2); (try clear hk); (try clear hi)) | ((with_reducible refine gate_dst (N := 4) rfl ?_); refine box_event ?hg (N := 4) ?hd (cs := #[.int .i64 0, .int .i64 0, .int .i64 0, .int .i64 0, .int .i64 0, .int .i64 0, .int .i64 0, .int .i64 0]) (t := 46) ?hr ?_; (case hd => rfl); (case hg => rfl); (case hr => first | (go_simp; done) | (go_simp; rfl)); intro gb466 hg w159 hbox hb; have n0_ := Aside0.mk (below_step (by repeat (first | (with_reducible first | exact HB.out | apply below_alloc | apply pw_below_drewN | apply below_drew1) | exact HB.out)) hb); have n1_ := Aside0.mk (hbox); have n2_ := Aside0.mk ((by rw [hg]; exact (below_size (by repeat (first | (with_reducible first | exact HB.out | apply below_alloc | apply pw_below_drewN | apply below_drew1) | exact HB.out))) : w.heap.size ≤ gb466)); have n3_ := Aside0.mk ((by rw [hg]; exact (below_size (by repeat (first | (with_reducible first | exact HB.out | apply below_alloc | apply pw_below_drewN | apply below_drew1) | exact HB.out))) : w.heap.size ≤ gb466)); clear HB; have HB := n0_; have BK466 := n1_; have GW466 := n2_; have GE466 := n3_; clear n0_ n1_ n2_ n3_; clear hb hbox hg; have hcz160_0 : w159.cell? ⟨gb466, 0, none⟩ = some (.int .i64 0) := (blk_cell BK466.out 0).trans rfl; have hcz160_1 : w159.cell? ⟨gb466, 1, none⟩ = some (.int .i64 0) := (blk_cell BK466.out 1).trans rfl; have hcz160_2 : w159.cell? ⟨gb466, 2, none⟩ = some (.int .i64 0) := (blk_cell BK466.out 2).trans rfl; have hcz160_3 : w159.cell? ⟨gb466, 3, none⟩ = some (.int .i64 0) := (blk_cell BK466.out 3).trans rfl; have hcz160_4 : w159.cell? ⟨gb466, 4, none⟩ = some (.int .i64 0) := (blk_cell BK466.out 4).trans rfl; have hcz160_5 : w159.cell? ⟨gb466, 5, none⟩ = some (.int .i64 0) := (blk_cell BK466.out 5).trans rfl; have hcz160_6 : w159.cell? ⟨gb466, 6, none⟩ = some (.int .i64 0) := (blk_cell BK466.out 6).trans rfl; have hcz160_7 : w159.cell? ⟨gb466, 7, none⟩ = some (.int .i64 0) := (blk_cell BK466.out 7).trans rfl; have hfz160_0 := blk_frozen BK466.out 0; have hfz160_1 := blk_frozen BK466.out 1; have hfz160_2 := blk_frozen BK466.out 2; have hfz160_3 := blk_frozen BK466.out 3; have hfz160_4 := blk_frozen BK466.out 4; have hfz160_5 := blk_frozen BK466.out 5; have hfz160_6 := blk_frozen BK466.out 6; have hfz160_7 := blk_frozen BK466.out 7) | ((with_reducible refine gate_store (t := 46) (p := 4) rfl ?_); refine Go.Proofs.YtpoafgokngpglaaDoorCells.store_whole (ty := 46) (x := .tmp 4) (y := ?vo_w161) (g := gb466) (cells := [.int .i64 t458, .int .i64 t459, .int .i64 t460, .int .i64 t461, .int .i64 t462, .int .i64 t463, .int .i64 t464, .int .i64 t465]) (t := 46) (old := [.int .i64 0, .int .i64 0, .int .i64 0, .int .i64 0, .int .i64 0, .int .i64 0, .int .i64 0, .int .i64 0]) ?hg ?ho ?hx ?hy ?hn ?hb ?hi rfl rfl ?_; (case ho => rfl); (case hg => rfl); (case hn => rfl); (case hx => rfl); (case hy => first | rfl | (go_simp; done) | (simp [*]; done)); (case hb => exact (by (with_reducible repeat (first | refine blk_drewN ?_ _ | refine blk_drew ?_ | refine blk_alloc ?_ _)); exact BK466.out)); (case hi => kernel_rfl); intro w161 hob_ hbk hfar hbel; have n0_ : Aside0 (w161.heap[gb466]? = some (.cells #[.int .i64 t458, .int .i64 t459, .int .i64 t460, .int .i64 t461, .int .i64 t462, .int .i64 t463, .int .i64 t464, .int .i64 t465] 46 (0, 0))) := ⟨hbk⟩; have n1_ : Aside0 (Below w.heap.size w w161) := ⟨hbel _ _ GE466.out (by repeat (first | (with_reducible first | exact HB.out | apply below_alloc | apply pw_below_drewN | apply below_drew1 | refine below_set ?_ GE466.out) | exact HB.out))⟩; clear hob_ hbk hfar hbel; clear BK466; clear HB; have BK466 := n0_; have HB := n1_; clear n0_ n1_))
       have n0_ := Aside0.mk (blk_drew BK466.out)
       have n1_ := Aside0.mk (below_drew1 HB.out)
       clear BK466
       clear HB
       have BK466 := n0_
       have HB := n1_
       clear n0_ n1_
       refine start_ (n := 19) (S := fun w' => w'.cell? ⟨gb466, 0, none⟩ = some (.int .i64 t458) ∧ w'.cell? ⟨gb466, 1, none⟩ = some (.int .i64 t459) ∧ w'.cell? ⟨gb466, 2, none⟩ = some (.int .i64 t460) ∧ w'.cell? ⟨gb466, 3, none⟩ = some (.int .i64 t461) ∧ w'.cell? ⟨gb466, 4, none⟩ = some (.int .i64 t462) ∧ w'.cell? ⟨gb466, 5, none⟩ = some (.int .i64 t463) ∧ w'.cell? ⟨gb466, 6, none⟩ = some (.int .i64 t464) ∧ w'.cell? ⟨gb466, 7, none⟩ = some (.int .i64 t465)) (ds := []) #[false, false, false, false, false, false, false, false, false, false, false, false, false, false, false, false, false, false, false] (by kernel_rfl) rfl rfl ⟨(blk_cell BK466.out 0).trans rfl, (blk_cell BK466.out 1).trans rfl, (blk_cell BK466.out 2).trans rfl, (blk_cell BK466.out 3).trans rfl, (blk_cell BK466.out 4).trans rfl, (blk_cell BK466.out 5).trans rfl, (blk_cell BK466.out 6).trans rfl, (blk_cell BK466.out 7).trans rfl⟩ (fun hHeld => ?_); refine with_tabW laws_FnWays.tab5 laws_FnWays.bits5 (fun HT_ HW_ => ?_)
       generalize w161.drew = w162 at BK466 HB hHeld ⊢
       refine pure_ (i := 0) (N := some 19) (v := ?_) (a' := ?_) #[true, false, false, false, false, false, false, false, false, false, false, false, false, false, false, false, false, false, false] rfl rfl (any_of HT_.out (by kernel_rfl)) (fun _ _ _ h => h) (Or.inl ⟨by rfl, ?_⟩) ?_ ?_
       rotate_left
       ·intro w'
        go_simp
        with_reducible rfl
       rotate_left
       ·simp only [Act.put, List.setIfInBounds_toArray, List.set_cons_zero, List.set_cons_succ, i64_w, i32_w]
        rfl
       refine pure_ (i := 2) (N := some 21) (v := ?_) (a' := ?_) #[true, false, true, false, false, false, false, false, false, false, false, false, false, false, false, false, false, false, false] rfl rfl (any_of HT_.out (by kernel_rfl)) (fun _ _ _ h => h) (Or.inl ⟨by rfl, ?_⟩) ?_ ?_
       rotate_left
       ·intro w'
        go_simp
        with_reducible rfl
       rotate_left
       ·simp only [Act.put, List.setIfInBounds_toArray, List.set_cons_zero, List.set_cons_succ, i64_w, i32_w]
        rfl
       refine take_ (i := 1) (N := some 20) (v := ?_) (a' := ?_) #[true, true, true, false, false, false, false, false, false, false, false, false, false, false, false, false, false, false, false] rfl rfl (take_ofW HT_.out HW_.out (by kernel_rfl)) (fun _ _ _ h => h) (Or.inl ⟨by rfl, ?_⟩) hHeld ?_ ?_
       rotate_left
       ·rintro w' ⟨s0, s1, s2, s3, s4, s5, s6, s7⟩
        go_simp
        with_reducible rfl
       rotate_left
       ·simp only [Act.put, List.setIfInBounds_toArray, List.set_cons_zero, List.set_cons_succ, i64_w, i32_w]
        rfl
       refine one_ (i := 3) (N := some 22) #[true, true, true, true, false, false, false, false, false, false, false, false, false, false, false, false, false, false, false] rfl rfl (one_of HT_.out (by kernel_rfl)) (by decide) (fun K hK => ?_)
       refine goes_ Tryd.func23 (by kernel_rfl) rfl #[.string t457] (by rfl) rfl rfl (by (try simp only [List.map_toArray, List.map_cons, List.map_nil]); first | done | rfl | (simp only [List.length_drop, List.length_take]; rfl)) ?_
       with_reducible refine (spec_ParseWay.calls k t457 t467 t468 t469 t470 t471 t472 t473 t474 _ A6.out).mono ?_
       rintro e w163 ⟨rfl, hb⟩
       refine ⟨_, rfl, ?_⟩
       have n0_ := Aside0.mk (blkb hb BK466.out)
       have n1_ := Aside0.mk (below_step (by repeat (first | (with_reducible first | exact HB.out | apply below_alloc | apply pw_below_drewN | apply below_drew1 | refine below_set ?_ GE466.out) | exact HB.out)) hb)
       clear BK466
       clear HB
       have BK466 := n0_
       have HB := n1_
       clear n0_ n1_
       (try clear hb)
       (try clear hb2)
       (try clear hk)
       (try clear hi)
       refine hK.out _ _ ⟨(blk_cell BK466.out 0).trans rfl, (blk_cell BK466.out 1).trans rfl, (blk_cell BK466.out 2).trans rfl, (blk_cell BK466.out 3).trans rfl, (blk_cell BK466.out 4).trans rfl, (blk_cell BK466.out 5).trans rfl, (blk_cell BK466.out 6).trans rfl, (blk_cell BK466.out 7).trans rfl⟩ (fun hHeld => ?_)
       clear hK K
       refine norm_ (a' := ?_) ?_ ?_
       rotate_left
       ·show Act.put _ (some 22) _ = _
        simp only [Act.put, List.setIfInBounds_toArray, List.set_cons_zero, List.set_cons_succ, i64_w, i32_w]
        rfl
       refine pure_ (i := 4) (N := some 23) (v := ?_) (a' := ?_) #[true, true, true, true, true, false, false, false, false, false, false, false, false, false, false, false, false, false, false] rfl rfl (any_of HT_.out (by kernel_rfl)) (fun _ _ _ h => h) (Or.inl ⟨by rfl, ?_⟩) ?_ ?_
       rotate_left
       ·intro w'
        go_simp
        with_reducible rfl
       rotate_left
       ·simp only [Act.put, List.setIfInBounds_toArray, List.set_cons_zero, List.set_cons_succ, i64_w, i32_w]
        rfl
       refine pure_ (i := 5) (N := some 24) (v := ?_) (a' := ?_) #[true, true, true, true, true, true, false, false, false, false, false, false, false, false, false, false, false, false, false] rfl rfl (any_of HT_.out (by kernel_rfl)) (fun _ _ _ h => h) (Or.inl ⟨by rfl, ?_⟩) ?_ ?_
       rotate_left
       ·intro w'
        go_simp
        with_reducible rfl
       rotate_left
       ·simp only [Act.put, List.setIfInBounds_toArray, List.set_cons_zero, List.set_cons_succ, i64_w, i32_w]
        rfl
       refine pure_ (i := 6) (N := some 25) (v := ?_) (a' := ?_) #[true, true, true, true, true, true, true, false, false, false, false, false, false, false, false, false, false, false, false] rfl rfl (any_of HT_.out (by kernel_rfl)) (fun _ _ _ h => h) (Or.inl ⟨by rfl, ?_⟩) ?_ ?_
       rotate_left
       ·intro w'
        go_simp
        with_reducible rfl
       rotate_left
       ·simp only [Act.put, List.setIfInBounds_toArray, List.set_cons_zero, List.set_cons_succ, i64_w, i32_w]
        rfl
       refine pure_ (i := 7) (N := some 26) (v := ?_) (a' := ?_) #[true, true, true, true, true, true, true, true, false, false, false, false, false, false, false, false, false, false, false] rfl rfl (any_of HT_.out (by kernel_rfl)) (fun _ _ _ h => h) (Or.inl ⟨by rfl, ?_⟩) ?_ ?_
       rotate_left
       ·intro w'
        go_simp
        with_reducible rfl
       rotate_left
       ·simp only [Act.put, List.setIfInBounds_toArray, List.set_cons_zero, List.set_cons_succ, i64_w, i32_w]
        rfl
       refine take_ (i := 8) (N := some 27) (v := ?_) (a' := ?_) #[true, true, true, true, true, true, true, true, true, false, false, false, false, false, false, false, false, false, false] rfl rfl (take_ofW HT_.out HW_.out (by kernel_rfl)) (fun _ _ _ h => h) (Or.inl ⟨by rfl, ?_⟩) hHeld ?_ ?_
       rotate_left
       ·rintro w' ⟨s0, s1, s2, s3, s4, s5, s6, s7⟩
        go_simp
        with_reducible rfl
       rotate_left
       ·simp only [Act.put, List.setIfInBounds_toArray, List.set_cons_zero, List.set_cons_succ, i64_w, i32_w]
        rfl
       refine pure_ (i := 9) (N := some 28) (v := ?_) (a' := ?_) #[true, true, true, true, true, true, true, true, true, true, false, false, false, false, false, false, false, false, false] rfl rfl (any_of HT_.out (by kernel_rfl)) (fun _ _ _ h => h) (Or.inl ⟨by rfl, ?_⟩) ?_ ?_
       rotate_left
       ·intro w'
        go_simp
        with_reducible rfl
       rotate_left
       ·simp only [Act.put, List.setIfInBounds_toArray, List.set_cons_zero, List.set_cons_succ, i64_w, i32_w]
        rfl
       refine pure_ (i := 10) (N := some 29) (v := ?_) (a' := ?_) #[true, true, true, true, true, true, true, true, true, true, true, false, false, false, false, false, false, false, false] rfl rfl (any_of HT_.out (by kernel_rfl)) (fun _ _ _ h => h) (Or.inl ⟨by rfl, ?_⟩) ?_ ?_
       rotate_left
       ·intro w'
        go_simp
        with_reducible rfl
       rotate_left
       ·simp only [Act.put, List.setIfInBounds_toArray, List.set_cons_zero, List.set_cons_succ, i64_w, i32_w]
        rfl
       refine pure_ (i := 11) (N := some 30) (v := undef) (a' := ?_) #[true, true, true, true, true, true, true, true, true, true, true, true, false, false, false, false, false, false, false] rfl rfl (any_of HT_.out (by kernel_rfl)) (fun _ _ _ h => h) (Or.inr ⟨by rfl, rfl⟩) ?_ ?_
       rotate_left
       ·simp only [Act.put, List.setIfInBounds_toArray, List.set_cons_zero, List.set_cons_succ, i64_w, i32_w]
        rfl
       refine pure_ (i := 12) (N := some 31) (v := undef) (a' := ?_) #[true, true, true, true, true, true, true, true, true, true, true, true, true, false, false, false, false, false, false] rfl rfl (any_of HT_.out (by kernel_rfl)) (fun _ _ _ h => h) (Or.inr ⟨by rfl, rfl⟩) ?_ ?_
       rotate_left
       ·simp only [Act.put, List.setIfInBounds_toArray, List.set_cons_zero, List.set_cons_succ, i64_w, i32_w]
        rfl
       refine pure_ (i := 13) (N := some 32) (v := undef) (a' := ?_) #[true, true, true, true, true, true, true, true, true, true, true, true, true, true, false, false, false, false, false] rfl rfl (any_of HT_.out (by kernel_rfl)) (fun _ _ _ h => h) (Or.inr ⟨by rfl, rfl⟩) ?_ ?_
       rotate_left
       ·simp only [Act.put, List.setIfInBounds_toArray, List.set_cons_zero, List.set_cons_succ, i64_w, i32_w]
        rfl
       refine pure_ (i := 14) (N := some 33) (v := undef) (a' := ?_) #[true, true, true, true, true, true, true, true, true, true, true, true, true, true, true, false, false, false, false] rfl rfl (any_of HT_.out (by kernel_rfl)) (fun _ _ _ h => h) (Or.inr ⟨by rfl, rfl⟩) ?_ ?_
       rotate_left
       ·simp only [Act.put, List.setIfInBounds_toArray, List.set_cons_zero, List.set_cons_succ, i64_w, i32_w]
        rfl
       refine pure_ (i := 15) (N := some 34) (v := undef) (a' := ?_) #[true, true, true, true, true, true, true, true, true, true, true, true, true, true, true, true, false, false, false] rfl rfl (any_of HT_.out (by kernel_rfl)) (fun _ _ _ h => h) (Or.inr ⟨by rfl, rfl⟩) ?_ ?_
       rotate_left
       ·simp only [Act.put, List.setIfInBounds_toArray, List.set_cons_zero, List.set_cons_succ, i64_w, i32_w]
        rfl
       refine pure_ (i := 16) (N := some 35) (v := undef) (a' := ?_) #[true, true, true, true, true, true, true, true, true, true, true, true, true, true, true, true, true, false, false] rfl rfl (any_of HT_.out (by kernel_rfl)) (fun _ _ _ h => h) (Or.inr ⟨by rfl, rfl⟩) ?_ ?_
       rotate_left
       ·simp only [Act.put, List.setIfInBounds_toArray, List.set_cons_zero, List.set_cons_succ, i64_w, i32_w]
        rfl
       refine pure_ (i := 17) (N := some 36) (v := ?_) (a' := ?_) #[true, true, true, true, true, true, true, true, true, true, true, true, true, true, true, true, true, true, false] rfl rfl (any_of HT_.out (by kernel_rfl)) (fun _ _ _ h => h) (Or.inl ⟨by rfl, ?_⟩) ?_ ?_
       rotate_left
       ·intro w'
        go_simp
        with_reducible rfl
       rotate_left
       ·simp only [Act.put, List.setIfInBounds_toArray, List.set_cons_zero, List.set_cons_succ, i64_w, i32_w]
        rfl
       refine pure_ (i := 18) (N := some 37) (v := ?_) (a' := ?_) #[true, true, true, true, true, true, true, true, true, true, true, true, true, true, true, true, true, true, true] rfl rfl (any_of HT_.out (by kernel_rfl)) (fun _ _ _ h => h) (Or.inl ⟨by rfl, ?_⟩) ?_ ?_
       rotate_left
       ·intro w'
        go_simp
        with_reducible rfl
       rotate_left
       ·simp only [Act.put, List.setIfInBounds_toArray, List.set_cons_zero, List.set_cons_succ, i64_w, i32_w]
        rfl
       refine done_ (done_of HT_.out (by kernel_rfl)) ?_
       try go_wp2_with (first | ((with_reducible refine gate_callee (f := 27) rfl ?_); refine goesL_ (some 40) rfl rfl Tryd.func27 (by kernel_rfl) rfl #[.slice A0 l0.length c0] rfl (by (try simp only [List.map_toArray, List.map_cons, List.map_nil]); first | done | rfl | (simp only [List.length_drop, List.length_take]; rfl)) ?_; (with_reducible refine (spec_DrawHasFlag.calls _ _ l0 t542 t543 t544 t545 t546 t547 t548 t549 _ ?side1 ?side2 A135.out).mono ?_); (case side1 => repeat (first | exact (Kd.C_below HR0.out HB.out) | (with_reducible refine Kd.C_alloc ?_ _) | (with_reducible refine Kd.C_drewN ?_ _) | (with_reducible refine Kd.C_drew ?_))); (case side2 => exact HC0.out); rintro e w164 ⟨rfl, hb⟩; refine ⟨_, rfl, ?_⟩; have n0_ := Aside0.mk (blkb hb BK466.out); have n1_ := Aside0.mk (below_step (by repeat (first | (with_reducible first | exact HB.out | apply below_alloc | apply pw_below_drewN | apply below_drew1 | refine below_set ?_ GE466.out) | exact HB.out)) hb); clear BK466; clear HB; have BK466 := n0_; have HB := n1_; clear n0_ n1_; (try clear hb); (try clear hb2); (try clear hk); (try clear hi)) | ((with_reducible refine gate_dst (N := 5) rfl ?_); refine box_event ?hg (N := 5) ?hd (cs := #[.int .i64 0, .int .i64 0, .int .i64 0, .int .i64 0, .int .i64 0, .int .i64 0, .int .i64 0]) (t := 41) ?hr ?_; (case hd => rfl); (case hg => rfl); (case hr => first | (go_simp; done) | (go_simp; rfl)); intro gb550 hg w165 hbox hb; have n0_ := Aside0.mk (blkb hb BK466.out); have n1_ := Aside0.mk (below_step (by repeat (first | (with_reducible first | exact HB.out | apply below_alloc | apply pw_below_drewN | apply below_drew1 | refine below_set ?_ GE466.out) | exact HB.out)) hb); have n2_ := Aside0.mk (hbox); have n3_ := Aside0.mk ((by rw [hg]; exact (below_size (by repeat (first | (with_reducible first | exact HB.out | apply below_alloc | apply pw_below_drewN | apply below_drew1 | refine below_set ?_ GE466.out) | exact HB.out))) : w.heap.size ≤ gb550)); have n4_ := Aside0.mk ((by rw [hg]; exact (below_size (by repeat (first | (with_reducible first | exact HB.out | apply below_alloc | apply pw_below_drewN | apply below_drew1 | refine below_set ?_ GE466.out) | exact HB.out))) : w.heap.size ≤ gb550)); have n5_ := Aside0.mk ((blkn hg BK466.out)); have n6_ := Aside0.mk ((blkm hg BK466.out)); clear BK466; clear HB; have BK466 := n0_; have HB := n1_; have BK550 := n2_; have GW550 := n3_; have GE550 := n4_; have NB466_550 := n5_; have NB550_466 := n6_; clear n0_ n1_ n2_ n3_ n4_ n5_ n6_; clear hb hbox hg; have hnb166 := NB550_466.out; have hnc166 := NB466_550.out; have hcz167_0 : w165.cell? ⟨gb550, 0, none⟩ = some (.int .i64 0) := (blk_cell BK550.out 0).trans rfl; have hcz167_1 : w165.cell? ⟨gb550, 1, none⟩ = some (.int .i64 0) := (blk_cell BK550.out 1).trans rfl; have hcz167_2 : w165.cell? ⟨gb550, 2, none⟩ = some (.int .i64 0) := (blk_cell BK550.out 2).trans rfl; have hcz167_3 : w165.cell? ⟨gb550, 3, none⟩ = some (.int .i64 0) := (blk_cell BK550.out 3).trans rfl; have hcz167_4 : w165.cell? ⟨gb550, 4, none⟩ = some (.int .i64 0) := (blk_cell BK550.out 4).trans rfl; have hcz167_5 : w165.cell? ⟨gb550, 5, none⟩ = some (.int .i64 0) := (blk_cell BK550.out 5).trans rfl; have hcz167_6 : w165.cell? ⟨gb550, 6, none⟩ = some (.int .i64 0) := (blk_cell BK550.out 6).trans rfl; have hfz167_0 := blk_frozen BK550.out 0; have hfz167_1 := blk_frozen BK550.out 1; have hfz167_2 := blk_frozen BK550.out 2; have hfz167_3 := blk_frozen BK550.out 3; have hfz167_4 := blk_frozen BK550.out 4; have hfz167_5 := blk_frozen BK550.out 5; have hfz167_6 := blk_frozen BK550.out 6))
       have n0_ : Aside0 ((((((((w165.setCell ⟨gb550, 0, none⟩ (.int .i64 t542)).setCell ⟨gb550, 1, none⟩ (.int .i64 t543)).setCell ⟨gb550, 2, none⟩ (.int .i64 t544)).setCell ⟨gb550, 3, none⟩ (.int .i64 t545)).setCell ⟨gb550, 4, none⟩ (.int .i64 t546)).setCell ⟨gb550, 5, none⟩ (.int .i64 t547)).setCell ⟨gb550, 6, none⟩ (.int .i64 t548)).heap[gb466]? = some (.cells #[.int .i64 t458, .int .i64 t459, .int .i64 t460, .int .i64 t461, .int .i64 t462, .int .i64 t463, .int .i64 t464, .int .i64 t465] 46 (0, 0))) := ⟨by (with_reducible repeat (first | refine blk_drewN ?_ _ | refine blk_drew ?_ | refine blk_alloc ?_ _)); refine blk_far ?_ NB466_550.out _; (with_reducible repeat (first | refine blk_drewN ?_ _ | refine blk_drew ?_ | refine blk_alloc ?_ _)); refine blk_far ?_ NB466_550.out _; (with_reducible repeat (first | refine blk_drewN ?_ _ | refine blk_drew ?_ | refine blk_alloc ?_ _)); refine blk_far ?_ NB466_550.out _; (with_reducible repeat (first | refine blk_drewN ?_ _ | refine blk_drew ?_ | refine blk_alloc ?_ _)); refine blk_far ?_ NB466_550.out _; (with_reducible repeat (first | refine blk_drewN ?_ _ | refine blk_drew ?_ | refine blk_alloc ?_ _)); refine blk_far ?_ NB466_550.out _; (with_reducible repeat (first | refine blk_drewN ?_ _ | refine blk_drew ?_ | refine blk_alloc ?_ _)); refine blk_far ?_ NB466_550.out _; (with_reducible repeat (first | refine blk_drewN ?_ _ | refine blk_drew ?_ | refine blk_alloc ?_ _)); refine blk_far ?_ NB466_550.out _; (with_reducible repeat (first | refine blk_drewN ?_ _ | refine blk_drew ?_ | refine blk_alloc ?_ _)); exact BK466.out⟩
       have n1_ : Aside0 ((((((((w165.setCell ⟨gb550, 0, none⟩ (.int .i64 t542)).setCell ⟨gb550, 1, none⟩ (.int .i64 t543)).setCell ⟨gb550, 2, none⟩ (.int .i64 t544)).setCell ⟨gb550, 3, none⟩ (.int .i64 t545)).setCell ⟨gb550, 4, none⟩ (.int .i64 t546)).setCell ⟨gb550, 5, none⟩ (.int .i64 t547)).setCell ⟨gb550, 6, none⟩ (.int .i64 t548)).heap[gb550]? = some (.cells #[.int .i64 t542, .int .i64 t543, .int .i64 t544, .int .i64 t545, .int .i64 t546, .int .i64 t547, .int .i64 t548] 41 (0, 0))) := ⟨by (with_reducible repeat (first | refine blk_drewN ?_ _ | refine blk_drew ?_ | refine blk_alloc ?_ _)); refine blk_put (cs := #[.int .i64 t542, .int .i64 t543, .int .i64 t544, .int .i64 t545, .int .i64 t546, .int .i64 t547, .int .i64 0]) ?_ 6 _ rfl; (with_reducible repeat (first | refine blk_drewN ?_ _ | refine blk_drew ?_ | refine blk_alloc ?_ _)); refine blk_put (cs := #[.int .i64 t542, .int .i64 t543, .int .i64 t544, .int .i64 t545, .int .i64 t546, .int .i64 0, .int .i64 0]) ?_ 5 _ rfl; (with_reducible repeat (first | refine blk_drewN ?_ _ | refine blk_drew ?_ | refine blk_alloc ?_ _)); refine blk_put (cs := #[.int .i64 t542, .int .i64 t543, .int .i64 t544, .int .i64 t545, .int .i64 0, .int .i64 0, .int .i64 0]) ?_ 4 _ rfl; (with_reducible repeat (first | refine blk_drewN ?_ _ | refine blk_drew ?_ | refine blk_alloc ?_ _)); refine blk_put (cs := #[.int .i64 t542, .int .i64 t543, .int .i64 t544, .int .i64 0, .int .i64 0, .int .i64 0, .int .i64 0]) ?_ 3 _ rfl; (with_reducible repeat (first | refine blk_drewN ?_ _ | refine blk_drew ?_ | refine blk_alloc ?_ _)); refine blk_put (cs := #[.int .i64 t542, .int .i64 t543, .int .i64 0, .int .i64 0, .int .i64 0, .int .i64 0, .int .i64 0]) ?_ 2 _ rfl; (with_reducible repeat (first | refine blk_drewN ?_ _ | refine blk_drew ?_ | refine blk_alloc ?_ _)); refine blk_put (cs := #[.int .i64 t542, .int .i64 0, .int .i64 0, .int .i64 0, .int .i64 0, .int .i64 0, .int .i64 0]) ?_ 1 _ rfl; (with_reducible repeat (first | refine blk_drewN ?_ _ | refine blk_drew ?_ | refine blk_alloc ?_ _)); refine blk_put (cs := #[.int .i64 0, .int .i64 0, .int .i64 0, .int .i64 0, .int .i64 0, .int .i64 0, .int .i64 0]) ?_ 0 _ rfl; (with_reducible repeat (first | refine blk_drewN ?_ _ | refine blk_drew ?_ | refine blk_alloc ?_ _)); exact BK550.out⟩
       have n2_ : Aside0 (Below w.heap.size w (((((((w165.setCell ⟨gb550, 0, none⟩ (.int .i64 t542)).setCell ⟨gb550, 1, none⟩ (.int .i64 t543)).setCell ⟨gb550, 2, none⟩ (.int .i64 t544)).setCell ⟨gb550, 3, none⟩ (.int .i64 t545)).setCell ⟨gb550, 4, none⟩ (.int .i64 t546)).setCell ⟨gb550, 5, none⟩ (.int .i64 t547)).setCell ⟨gb550, 6, none⟩ (.int .i64 t548))) := ⟨by repeat (first | (with_reducible first | exact HB.out | apply below_alloc | apply pw_below_drewN | apply below_drew1 | refine below_set ?_ GE466.out | refine below_set ?_ GE550.out) | exact HB.out)⟩
       (try clear BK466)
       (try clear BK550)
       (try clear HB)
       generalize (((((((w165.setCell ⟨gb550, 0, none⟩ (.int .i64 t542)).setCell ⟨gb550, 1, none⟩ (.int .i64 t543)).setCell ⟨gb550, 2, none⟩ (.int .i64 t544)).setCell ⟨gb550, 3, none⟩ (.int .i64 t545)).setCell ⟨gb550, 4, none⟩ (.int .i64 t546)).setCell ⟨gb550, 5, none⟩ (.int .i64 t547)).setCell ⟨gb550, 6, none⟩ (.int .i64 t548)) = w168 at n0_ n1_ n2_ ⊢
       have BK466 := n0_
       have BK550 := n1_
       have HB := n2_
       clear n0_ n1_ n2_
       have n0_ := Aside0.mk (blk_drew BK466.out)
       have n1_ := Aside0.mk (blk_drew BK550.out)
       have n2_ := Aside0.mk (below_drew1 HB.out)
       clear BK466
       clear BK550
       clear HB
       have BK466 := n0_
       have BK550 := n1_
       have HB := n2_
       clear n0_ n1_ n2_
       refine start_ (n := 7) (S := fun w' => w'.cell? ⟨gb550, 0, none⟩ = some (.int .i64 t542) ∧ w'.cell? ⟨gb550, 1, none⟩ = some (.int .i64 t543) ∧ w'.cell? ⟨gb550, 2, none⟩ = some (.int .i64 t544) ∧ w'.cell? ⟨gb550, 3, none⟩ = some (.int .i64 t545) ∧ w'.cell? ⟨gb550, 4, none⟩ = some (.int .i64 t546) ∧ w'.cell? ⟨gb550, 5, none⟩ = some (.int .i64 t547) ∧ w'.cell? ⟨gb550, 6, none⟩ = some (.int .i64 t548)) (ds := []) #[false, false, false, false, false, false, false] (by kernel_rfl) rfl rfl ⟨(blk_cell BK550.out 0).trans rfl, (blk_cell BK550.out 1).trans rfl, (blk_cell BK550.out 2).trans rfl, (blk_cell BK550.out 3).trans rfl, (blk_cell BK550.out 4).trans rfl, (blk_cell BK550.out 5).trans rfl, (blk_cell BK550.out 6).trans rfl⟩ (fun hHeld => ?_)
       generalize w168.drew = w169 at BK466 BK550 HB hHeld ⊢
       refine pure_ (i := 1) (N := some 44) (v := ?_) (a' := ?_) #[false, true, false, false, false, false, false] rfl rfl (by kernel_rfl) (fun _ _ _ h => h) (Or.inl ⟨by rfl, ?_⟩) ?_ ?_
       rotate_left
       ·intro w'
        go_simp
        with_reducible rfl
       rotate_left
       ·simp only [Act.put, List.setIfInBounds_toArray, List.set_cons_zero, List.set_cons_succ, i64_w, i32_w]
        rfl
       refine pure_ (i := 4) (N := some 47) (v := ?_) (a' := ?_) #[false, true, false, false, true, false, false] rfl rfl (by kernel_rfl) (fun _ _ _ h => h) (Or.inl ⟨by rfl, ?_⟩) ?_ ?_
       rotate_left
       ·intro w'
        go_simp
        with_reducible rfl
       rotate_left
       ·simp only [Act.put, List.setIfInBounds_toArray, List.set_cons_zero, List.set_cons_succ, i64_w, i32_w]
        rfl
       refine take_ (i := 0) (N := some 43) (v := ?_) (a' := ?_) #[true, true, false, false, true, false, false] rfl rfl (by kernel_rfl) (fun _ _ _ h => h) (Or.inl ⟨by rfl, ?_⟩) hHeld ?_ ?_
       rotate_left
       ·rintro w' ⟨s0, s1, s2, s3, s4, s5, s6⟩
        go_simp
        with_reducible rfl
       rotate_left
       ·simp only [Act.put, List.setIfInBounds_toArray, List.set_cons_zero, List.set_cons_succ, i64_w, i32_w]
        rfl
       refine take_ (i := 3) (N := some 46) (v := ?_) (a' := ?_) #[true, true, false, true, true, false, false] rfl rfl (by kernel_rfl) (fun _ _ _ h => h) (Or.inl ⟨by rfl, ?_⟩) hHeld ?_ ?_
       rotate_left
       ·rintro w' ⟨s0, s1, s2, s3, s4, s5, s6⟩
        go_simp
        with_reducible rfl
       rotate_left
       ·simp only [Act.put, List.setIfInBounds_toArray, List.set_cons_zero, List.set_cons_succ, i64_w, i32_w]
        rfl
       refine one_ (i := 2) (N := some 45) #[true, true, true, true, true, false, false] rfl rfl (by kernel_rfl) (by decide) (fun K hK => ?_)
       refine goes_ Tryd.func28 (by kernel_rfl) rfl #[.agg #[.int .i64 t542, .int .i64 t543, .int .i64 t544, .int .i64 t545, .int .i64 t546, .int .i64 t547, .int .i64 t548], .int .i64 t549] (by rfl) rfl rfl (by (try simp only [List.map_toArray, List.map_cons, List.map_nil]); first | done | rfl | (simp only [List.length_drop, List.length_take]; rfl)) ?_
       with_reducible refine (impl_HasFlag.calls k t542 t543 t544 t545 t546 t547 t548 t549 t551 _ A136.out).mono ?_
       rintro e w170 ⟨rfl, hb⟩
       refine ⟨_, rfl, ?_⟩
       have n0_ := Aside0.mk (blkb hb BK466.out)
       have n1_ := Aside0.mk (blkb hb BK550.out)
       have n2_ := Aside0.mk (below_step (by repeat (first | (with_reducible first | exact HB.out | apply below_alloc | apply pw_below_drewN | apply below_drew1 | refine below_set ?_ GE466.out | refine below_set ?_ GE550.out) | exact HB.out)) hb)
       clear BK466
       clear BK550
       clear HB
       have BK466 := n0_
       have BK550 := n1_
       have HB := n2_
       clear n0_ n1_ n2_
       (try clear hb)
       (try clear hb2)
       (try clear hk)
       (try clear hi)
       refine hK.out _ _ ⟨(blk_cell BK550.out 0).trans rfl, (blk_cell BK550.out 1).trans rfl, (blk_cell BK550.out 2).trans rfl, (blk_cell BK550.out 3).trans rfl, (blk_cell BK550.out 4).trans rfl, (blk_cell BK550.out 5).trans rfl, (blk_cell BK550.out 6).trans rfl⟩ (fun hHeld => ?_)
       clear hK K
       refine norm_ (a' := ?_) ?_ ?_
       rotate_left
       ·show Act.put _ (some 45) _ = _
        simp only [Act.put, List.setIfInBounds_toArray, List.set_cons_zero, List.set_cons_succ, i64_w, i32_w]
        rfl
       refine one_ (i := 5) (N := some 48) #[true, true, true, true, true, true, false] rfl rfl (by kernel_rfl) (by decide) (fun K hK => ?_)
       refine goes_ Tryd.func29 (by kernel_rfl) rfl #[.agg #[.int .i64 t542, .int .i64 t543, .int .i64 t544, .int .i64 t545, .int .i64 t546, .int .i64 t547, .int .i64 t548], .int .i64 t549] (by rfl) rfl rfl (by (try simp only [List.map_toArray, List.map_cons, List.map_nil]); first | done | rfl | (simp only [List.length_drop, List.length_take]; rfl)) ?_
       with_reducible refine (spec_HasFlag.calls k t542 t543 t544 t545 t546 t547 t548 t549 t552 _ A137.out).mono ?_
       rintro e w171 ⟨rfl, hb⟩
       refine ⟨_, rfl, ?_⟩
       have n0_ := Aside0.mk (blkb hb BK466.out)
       have n1_ := Aside0.mk (blkb hb BK550.out)
       have n2_ := Aside0.mk (below_step (by repeat (first | (with_reducible first | exact HB.out | apply below_alloc | apply pw_below_drewN | apply below_drew1 | refine below_set ?_ GE466.out | refine below_set ?_ GE550.out) | exact HB.out)) hb)
       clear BK466
       clear BK550
       clear HB
       have BK466 := n0_
       have BK550 := n1_
       have HB := n2_
       clear n0_ n1_ n2_
       (try clear hb)
       (try clear hb2)
       (try clear hk)
       (try clear hi)
       refine hK.out _ _ ⟨(blk_cell BK550.out 0).trans rfl, (blk_cell BK550.out 1).trans rfl, (blk_cell BK550.out 2).trans rfl, (blk_cell BK550.out 3).trans rfl, (blk_cell BK550.out 4).trans rfl, (blk_cell BK550.out 5).trans rfl, (blk_cell BK550.out 6).trans rfl⟩ (fun hHeld => ?_)
       clear hK K
       refine norm_ (a' := ?_) ?_ ?_
       rotate_left
       ·show Act.put _ (some 48) _ = _
        simp only [Act.put, List.setIfInBounds_toArray, List.set_cons_zero, List.set_cons_succ, i64_w, i32_w]
        rfl
       refine pure_ (i := 6) (N := some 49) (v := ?_) (a' := ?_) #[true, true, true, true, true, true, true] rfl rfl (by kernel_rfl) (fun _ _ _ h => h) (Or.inl ⟨by rfl, ?_⟩) ?_ ?_
       rotate_left
       ·intro w'
        go_simp
        with_reducible rfl
       rotate_left
       ·simp only [Act.put, List.setIfInBounds_toArray, List.set_cons_zero, List.set_cons_succ, i64_w, i32_w]
        rfl
       refine done_ (by kernel_rfl) ?_
       try go_wp2_with (first | ((with_reducible refine gate_callee (f := 30) rfl ?_); refine goesL_ (some 52) rfl rfl Tryd.func30 (by kernel_rfl) rfl #[.slice A0 l0.length c0] rfl (by (try simp only [List.map_toArray, List.map_cons, List.map_nil]); first | done | rfl | (simp only [List.length_drop, List.length_take]; rfl)) ?_; (with_reducible refine (spec_DrawShownByte.calls _ _ l0 t553 t554 t555 t556 t557 t558 t559 t560 _ ?side1 ?side2 A139.out).mono ?_); (case side1 => repeat (first | exact (Kd.C_below HR0.out HB.out) | (with_reducible refine Kd.C_alloc ?_ _) | (with_reducible refine Kd.C_drewN ?_ _) | (with_reducible refine Kd.C_drew ?_))); (case side2 => exact HC0.out); rintro e w172 ⟨rfl, hb⟩; refine ⟨_, rfl, ?_⟩; have n0_ := Aside0.mk (blkb hb BK466.out); have n1_ := Aside0.mk (blkb hb BK550.out); have n2_ := Aside0.mk (below_step (by repeat (first | (with_reducible first | exact HB.out | apply below_alloc | apply pw_below_drewN | apply below_drew1 | refine below_set ?_ GE466.out | refine below_set ?_ GE550.out) | exact HB.out)) hb); clear BK466; clear BK550; clear HB; have BK466 := n0_; have BK550 := n1_; have HB := n2_; clear n0_ n1_ n2_; (try clear hb); (try clear hb2); (try clear hk); (try clear hi)) | ((with_reducible refine gate_dst (N := 7) rfl ?_); refine box_event ?hg (N := 7) ?hd (cs := #[.int .i64 0, .int .i64 0, .int .i64 0, .int .i64 0, .int .i64 0, .int .i64 0, .int .i64 0]) (t := 41) ?hr ?_; (case hd => rfl); (case hg => rfl); (case hr => first | (go_simp; done) | (go_simp; rfl)); intro gb561 hg w173 hbox hb; have n0_ := Aside0.mk (blkb hb BK466.out); have n1_ := Aside0.mk (blkb hb BK550.out); have n2_ := Aside0.mk (below_step (by repeat (first | (with_reducible first | exact HB.out | apply below_alloc | apply pw_below_drewN | apply below_drew1 | refine below_set ?_ GE466.out | refine below_set ?_ GE550.out) | exact HB.out)) hb); have n3_ := Aside0.mk (hbox); have n4_ := Aside0.mk ((by rw [hg]; exact (below_size (by repeat (first | (with_reducible first | exact HB.out | apply below_alloc | apply pw_below_drewN | apply below_drew1 | refine below_set ?_ GE466.out | refine below_set ?_ GE550.out) | exact HB.out))) : w.heap.size ≤ gb561)); have n5_ := Aside0.mk ((by rw [hg]; exact (below_size (by repeat (first | (with_reducible first | exact HB.out | apply below_alloc | apply pw_below_drewN | apply below_drew1 | refine below_set ?_ GE466.out | refine below_set ?_ GE550.out) | exact HB.out))) : w.heap.size ≤ gb561)); have n6_ := Aside0.mk ((blkn hg BK466.out)); have n7_ := Aside0.mk ((blkm hg BK466.out)); have n8_ := Aside0.mk ((blkn hg BK550.out)); have n9_ := Aside0.mk ((blkm hg BK550.out)); clear BK466; clear BK550; clear HB; have BK466 := n0_; have BK550 := n1_; have HB := n2_; have BK561 := n3_; have GW561 := n4_; have GE561 := n5_; have NB466_561 := n6_; have NB561_466 := n7_; have NB550_561 := n8_; have NB561_550 := n9_; clear n0_ n1_ n2_ n3_ n4_ n5_ n6_ n7_ n8_ n9_; clear hb hbox hg; have hnb174 := NB561_466.out; have hnc174 := NB466_561.out; have hnb175 := NB561_550.out; have hnc175 := NB550_561.out; have hcz176_0 : w173.cell? ⟨gb561, 0, none⟩ = some (.int .i64 0) := (blk_cell BK561.out 0).trans rfl; have hcz176_1 : w173.cell? ⟨gb561, 1, none⟩ = some (.int .i64 0) := (blk_cell BK561.out 1).trans rfl; have hcz176_2 : w173.cell? ⟨gb561, 2, none⟩ = some (.int .i64 0) := (blk_cell BK561.out 2).trans rfl; have hcz176_3 : w173.cell? ⟨gb561, 3, none⟩ = some (.int .i64 0) := (blk_cell BK561.out 3).trans rfl; have hcz176_4 : w173.cell? ⟨gb561, 4, none⟩ = some (.int .i64 0) := (blk_cell BK561.out 4).trans rfl; have hcz176_5 : w173.cell? ⟨gb561, 5, none⟩ = some (.int .i64 0) := (blk_cell BK561.out 5).trans rfl; have hcz176_6 : w173.cell? ⟨gb561, 6, none⟩ = some (.int .i64 0) := (blk_cell BK561.out 6).trans rfl; have hfz176_0 := blk_frozen BK561.out 0; have hfz176_1 := blk_frozen BK561.out 1; have hfz176_2 := blk_frozen BK561.out 2; have hfz176_3 := blk_frozen BK561.out 3; have hfz176_4 := blk_frozen BK561.out 4; have hfz176_5 := blk_frozen BK561.out 5; have hfz176_6 := blk_frozen BK561.out 6) | ((with_reducible refine gate_callee (f := 31) rfl ?_); refine goesL_ (some 57) rfl rfl Tryd.func31 (by kernel_rfl) rfl #[.agg #[.int .i64 t553, .int .i64 t554, .int .i64 t555, .int .i64 t556, .int .i64 t557, .int .i64 t558, .int .i64 t559], .int .u8 t560] rfl (by (try simp only [List.map_toArray, List.map_cons, List.map_nil]); first | done | rfl | (simp only [List.length_drop, List.length_take]; rfl)) ?_; (with_reducible refine (impl_ShownByte.calls k t553 t554 t555 t556 t557 t558 t559 t560 t562 t563 _ A140.out).mono ?_); rintro e w177 ⟨v564, rfl, ho0, hb⟩; refine ⟨_, rfl, ?_⟩; have n0_ := Aside0.mk (Kd.R_lower ho0 (below_size (by repeat (first | (with_reducible first | exact HB.out | apply below_alloc | apply pw_below_drewN | apply below_drew1 | refine below_set ?_ GE466.out | refine below_set ?_ GE550.out | refine below_set ?_ GE561.out) | exact HB.out)))); have n1_ := Aside0.mk (blk_below (g := gb466) (o := .cells #[.int .i64 t458, .int .i64 t459, .int .i64 t460, .int .i64 t461, .int .i64 t462, .int .i64 t463, .int .i64 t464, .int .i64 t465] 46 (0, 0)) (by (with_reducible repeat (first | refine blk_drewN ?_ _ | refine blk_drew ?_ | refine blk_alloc ?_ _)); refine blk_far ?_ NB466_561.out _; (with_reducible repeat (first | refine blk_drewN ?_ _ | refine blk_drew ?_ | refine blk_alloc ?_ _)); refine blk_far ?_ NB466_561.out _; (with_reducible repeat (first | refine blk_drewN ?_ _ | refine blk_drew ?_ | refine blk_alloc ?_ _)); refine blk_far ?_ NB466_561.out _; (with_reducible repeat (first | refine blk_drewN ?_ _ | refine blk_drew ?_ | refine blk_alloc ?_ _)); refine blk_far ?_ NB466_561.out _; (with_reducible repeat (first | refine blk_drewN ?_ _ | refine blk_drew ?_ | refine blk_alloc ?_ _)); refine blk_far ?_ NB466_561.out _; (with_reducible repeat (first | refine blk_drewN ?_ _ | refine blk_drew ?_ | refine blk_alloc ?_ _)); refine blk_far ?_ NB466_561.out _; (with_reducible repeat (first | refine blk_drewN ?_ _ | refine blk_drew ?_ | refine blk_alloc ?_ _)); refine blk_far ?_ NB466_561.out _; (with_reducible repeat (first | refine blk_drewN ?_ _ | refine blk_drew ?_ | refine blk_alloc ?_ _)); exact BK466.out) hb); have n2_ := Aside0.mk (blk_below (g := gb550) (o := .cells #[.int .i64 t542, .int .i64 t543, .int .i64 t544, .int .i64 t545, .int .i64 t546, .int .i64 t547, .int .i64 t548] 41 (0, 0)) (by (with_reducible repeat (first | refine blk_drewN ?_ _ | refine blk_drew ?_ | refine blk_alloc ?_ _)); refine blk_far ?_ NB550_561.out _; (with_reducible repeat (first | refine blk_drewN ?_ _ | refine blk_drew ?_ | refine blk_alloc ?_ _)); refine blk_far ?_ NB550_561.out _; (with_reducible repeat (first | refine blk_drewN ?_ _ | refine blk_drew ?_ | refine blk_alloc ?_ _)); refine blk_far ?_ NB550_561.out _; (with_reducible repeat (first | refine blk_drewN ?_ _ | refine blk_drew ?_ | refine blk_alloc ?_ _)); refine blk_far ?_ NB550_561.out _; (with_reducible repeat (first | refine blk_drewN ?_ _ | refine blk_drew ?_ | refine blk_alloc ?_ _)); refine blk_far ?_ NB550_561.out _; (with_reducible repeat (first | refine blk_drewN ?_ _ | refine blk_drew ?_ | refine blk_alloc ?_ _)); refine blk_far ?_ NB550_561.out _; (with_reducible repeat (first | refine blk_drewN ?_ _ | refine blk_drew ?_ | refine blk_alloc ?_ _)); refine blk_far ?_ NB550_561.out _; (with_reducible repeat (first | refine blk_drewN ?_ _ | refine blk_drew ?_ | refine blk_alloc ?_ _)); exact BK550.out) hb); have n3_ := Aside0.mk (blk_below (g := gb561) (o := .cells #[.int .i64 t553, .int .i64 t554, .int .i64 t555, .int .i64 t556, .int .i64 t557, .int .i64 t558, .int .i64 t559] 41 (0, 0)) (by (with_reducible repeat (first | refine blk_drewN ?_ _ | refine blk_drew ?_ | refine blk_alloc ?_ _)); refine blk_put (cs := #[.int .i64 t553, .int .i64 t554, .int .i64 t555, .int .i64 t556, .int .i64 t557, .int .i64 t558, .int .i64 0]) ?_ 6 _ rfl; (with_reducible repeat (first | refine blk_drewN ?_ _ | refine blk_drew ?_ | refine blk_alloc ?_ _)); refine blk_put (cs := #[.int .i64 t553, .int .i64 t554, .int .i64 t555, .int .i64 t556, .int .i64 t557, .int .i64 0, .int .i64 0]) ?_ 5 _ rfl; (with_reducible repeat (first | refine blk_drewN ?_ _ | refine blk_drew ?_ | refine blk_alloc ?_ _)); refine blk_put (cs := #[.int .i64 t553, .int .i64 t554, .int .i64 t555, .int .i64 t556, .int .i64 0, .int .i64 0, .int .i64 0]) ?_ 4 _ rfl; (with_reducible repeat (first | refine blk_drewN ?_ _ | refine blk_drew ?_ | refine blk_alloc ?_ _)); refine blk_put (cs := #[.int .i64 t553, .int .i64 t554, .int .i64 t555, .int .i64 0, .int .i64 0, .int .i64 0, .int .i64 0]) ?_ 3 _ rfl; (with_reducible repeat (first | refine blk_drewN ?_ _ | refine blk_drew ?_ | refine blk_alloc ?_ _)); refine blk_put (cs := #[.int .i64 t553, .int .i64 t554, .int .i64 0, .int .i64 0, .int .i64 0, .int .i64 0, .int .i64 0]) ?_ 2 _ rfl; (with_reducible repeat (first | refine blk_drewN ?_ _ | refine blk_drew ?_ | refine blk_alloc ?_ _)); refine blk_put (cs := #[.int .i64 t553, .int .i64 0, .int .i64 0, .int .i64 0, .int .i64 0, .int .i64 0, .int .i64 0]) ?_ 1 _ rfl; (with_reducible repeat (first | refine blk_drewN ?_ _ | refine blk_drew ?_ | refine blk_alloc ?_ _)); refine blk_put (cs := #[.int .i64 0, .int .i64 0, .int .i64 0, .int .i64 0, .int .i64 0, .int .i64 0, .int .i64 0]) ?_ 0 _ rfl; (with_reducible repeat (first | refine blk_drewN ?_ _ | refine blk_drew ?_ | refine blk_alloc ?_ _)); exact BK561.out) hb); have n4_ := Aside0.mk (below_step (by repeat (first | (with_reducible first | exact HB.out | apply below_alloc | apply pw_below_drewN | apply below_drew1 | refine below_set ?_ GE466.out | refine below_set ?_ GE550.out | refine below_set ?_ GE561.out) | exact HB.out)) hb); clear BK466; clear BK550; clear BK561; clear HB; have HO565 := n0_; have BK466 := n1_; have BK550 := n2_; have BK561 := n3_; have HB := n4_; clear n0_ n1_ n2_ n3_ n4_; (try clear hb); (try clear hb2); (try clear hk); (try clear hi); (try clear ho0)) | ((with_reducible refine gate_dst (N := 9) rfl ?_); refine box_event ?hg (N := 9) ?hd (cs := #[.int .i64 0, .slice none 0 0]) (t := 34) ?hr ?_; (case hd => rfl); (case hg => rfl); (case hr => first | (go_simp; done) | (go_simp; rfl)); intro gb566 hg w178 hbox hb; have n0_ := Aside0.mk (Kd.R_below (by (with_reducible repeat (first | apply Kd.R_alloc | apply Kd.R_drewN | apply Kd.R_drew)); exact HO565.out) hb); have n1_ := Aside0.mk (blkb hb BK466.out); have n2_ := Aside0.mk (blkb hb BK550.out); have n3_ := Aside0.mk (blkb hb BK561.out); have n4_ := Aside0.mk (below_step (by repeat (first | (with_reducible first | exact HB.out | apply below_alloc | apply pw_below_drewN | apply below_drew1 | refine below_set ?_ GE466.out | refine below_set ?_ GE550.out | refine below_set ?_ GE561.out) | exact HB.out)) hb); have n5_ := Aside0.mk (hbox); have n6_ := Aside0.mk ((by rw [hg]; exact (below_size (by repeat (first | (with_reducible first | exact HB.out | apply below_alloc | apply pw_below_drewN | apply below_drew1 | refine below_set ?_ GE466.out | refine below_set ?_ GE550.out | refine below_set ?_ GE561.out) | exact HB.out))) : w.heap.size ≤ gb566)); have n7_ := Aside0.mk ((by rw [hg]; exact (below_size (by repeat (first | (with_reducible first | exact HB.out | apply below_alloc | apply pw_below_drewN | apply below_drew1 | refine below_set ?_ GE466.out | refine below_set ?_ GE550.out | refine below_set ?_ GE561.out) | exact HB.out))) : w.heap.size ≤ gb566)); have n8_ := Aside0.mk ((blkn hg BK466.out)); have n9_ := Aside0.mk ((blkm hg BK466.out)); have n10_ := Aside0.mk ((blkn hg BK550.out)); have n11_ := Aside0.mk ((blkm hg BK550.out)); have n12_ := Aside0.mk ((blkn hg BK561.out)); have n13_ := Aside0.mk ((blkm hg BK561.out)); clear HO565; clear BK466; clear BK550; clear BK561; clear HB; have HO565 := n0_; have BK466 := n1_; have BK550 := n2_; have BK561 := n3_; have HB := n4_; have BK566 := n5_; have GW566 := n6_; have GE566 := n7_; have NB466_566 := n8_; have NB566_466 := n9_; have NB550_566 := n10_; have NB566_550 := n11_; have NB561_566 := n12_; have NB566_561 := n13_; clear n0_ n1_ n2_ n3_ n4_ n5_ n6_ n7_ n8_ n9_ n10_ n11_ n12_ n13_; clear hb hbox hg; have hnb179 := NB566_466.out; have hnc179 := NB466_566.out; have hnb180 := NB566_550.out; have hnc180 := NB550_566.out; have hnb181 := NB566_561.out; have hnc181 := NB561_566.out; have hcz182_0 : w178.cell? ⟨gb566, 0, none⟩ = some (.int .i64 0) := (blk_cell BK566.out 0).trans rfl; have hcz182_1 : w178.cell? ⟨gb566, 1, none⟩ = some (.slice none 0 0) := (blk_cell BK566.out 1).trans rfl; have hfz182_0 := blk_frozen BK566.out 0; have hfz182_1 := blk_frozen BK566.out 1; obtain ⟨Ao183, co183, eo183⟩ := Kd.R_slice HO565.out; subst eo183))
       have n0_ : Aside0 (Kd.R (Kd.int .u8) 5 ((w178.setCell ⟨gb566, 0, none⟩ (.int .i64 t562)).setCell ⟨gb566, 1, none⟩ (.slice Ao183 t563.length co183)) w.heap.size (fun _ => True) (.slice Ao183 t563.length co183) t563) := ⟨by (with_reducible repeat (first | apply Kd.R_alloc | apply Kd.R_drewN | apply Kd.R_drew)); exact Kd.R_mono (Kd.R_far (p := ⟨gb566, 1, none⟩) (Kd.R_far (p := ⟨gb566, 0, none⟩) (Kd.R_types HO565.out BK566.out (by decide)) (fun _ hk => hk.2) (.int .i64 t562)) (fun _ hk => hk.2) (.slice Ao183 t563.length co183)) (fun _ hk => trivial)⟩
       have n1_ : Aside0 (((w178.setCell ⟨gb566, 0, none⟩ (.int .i64 t562)).setCell ⟨gb566, 1, none⟩ (.slice Ao183 t563.length co183)).heap[gb466]? = some (.cells #[.int .i64 t458, .int .i64 t459, .int .i64 t460, .int .i64 t461, .int .i64 t462, .int .i64 t463, .int .i64 t464, .int .i64 t465] 46 (0, 0))) := ⟨by (with_reducible repeat (first | refine blk_drewN ?_ _ | refine blk_drew ?_ | refine blk_alloc ?_ _)); refine blk_far ?_ NB466_566.out _; (with_reducible repeat (first | refine blk_drewN ?_ _ | refine blk_drew ?_ | refine blk_alloc ?_ _)); refine blk_far ?_ NB466_566.out _; (with_reducible repeat (first | refine blk_drewN ?_ _ | refine blk_drew ?_ | refine blk_alloc ?_ _)); exact BK466.out⟩
       have n2_ : Aside0 (((w178.setCell ⟨gb566, 0, none⟩ (.int .i64 t562)).setCell ⟨gb566, 1, none⟩ (.slice Ao183 t563.length co183)).heap[gb550]? = some (.cells #[.int .i64 t542, .int .i64 t543, .int .i64 t544, .int .i64 t545, .int .i64 t546, .int .i64 t547, .int .i64 t548] 41 (0, 0))) := ⟨by (with_reducible repeat (first | refine blk_drewN ?_ _ | refine blk_drew ?_ | refine blk_alloc ?_ _)); refine blk_far ?_ NB550_566.out _; (with_reducible repeat (first | refine blk_drewN ?_ _ | refine blk_drew ?_ | refine blk_alloc ?_ _)); refine blk_far ?_ NB550_566.out _; (with_reducible repeat (first | refine blk_drewN ?_ _ | refine blk_drew ?_ | refine blk_alloc ?_ _)); exact BK550.out⟩
       have n3_ : Aside0 (((w178.setCell ⟨gb566, 0, none⟩ (.int .i64 t562)).setCell ⟨gb566, 1, none⟩ (.slice Ao183 t563.length co183)).heap[gb561]? = some (.cells #[.int .i64 t553, .int .i64 t554, .int .i64 t555, .int .i64 t556, .int .i64 t557, .int .i64 t558, .int .i64 t559] 41 (0, 0))) := ⟨by (with_reducible repeat (first | refine blk_drewN ?_ _ | refine blk_drew ?_ | refine blk_alloc ?_ _)); refine blk_far ?_ NB561_566.out _; (with_reducible repeat (first | refine blk_drewN ?_ _ | refine blk_drew ?_ | refine blk_alloc ?_ _)); refine blk_far ?_ NB561_566.out _; (with_reducible repeat (first | refine blk_drewN ?_ _ | refine blk_drew ?_ | refine blk_alloc ?_ _)); exact BK561.out⟩
       have n4_ : Aside0 (((w178.setCell ⟨gb566, 0, none⟩ (.int .i64 t562)).setCell ⟨gb566, 1, none⟩ (.slice Ao183 t563.length co183)).heap[gb566]? = some (.cells #[.int .i64 t562, .slice Ao183 t563.length co183] 34 (0, 0))) := ⟨by (with_reducible repeat (first | refine blk_drewN ?_ _ | refine blk_drew ?_ | refine blk_alloc ?_ _)); refine blk_put (cs := #[.int .i64 t562, .slice none 0 0]) ?_ 1 _ rfl; (with_reducible repeat (first | refine blk_drewN ?_ _ | refine blk_drew ?_ | refine blk_alloc ?_ _)); refine blk_put (cs := #[.int .i64 0, .slice none 0 0]) ?_ 0 _ rfl; (with_reducible repeat (first | refine blk_drewN ?_ _ | refine blk_drew ?_ | refine blk_alloc ?_ _)); exact BK566.out⟩
       have n5_ : Aside0 (Below w.heap.size w ((w178.setCell ⟨gb566, 0, none⟩ (.int .i64 t562)).setCell ⟨gb566, 1, none⟩ (.slice Ao183 t563.length co183))) := ⟨by repeat (first | (with_reducible first | exact HB.out | apply below_alloc | apply pw_below_drewN | apply below_drew1 | refine below_set ?_ GE466.out | refine below_set ?_ GE550.out | refine below_set ?_ GE561.out | refine below_set ?_ GE566.out) | exact HB.out)⟩
       (try clear HO565)
       (try clear BK466)
       (try clear BK550)
       (try clear BK561)
       (try clear BK566)
       (try clear HB)
       generalize ((w178.setCell ⟨gb566, 0, none⟩ (.int .i64 t562)).setCell ⟨gb566, 1, none⟩ (.slice Ao183 t563.length co183)) = w184 at n0_ n1_ n2_ n3_ n4_ n5_ ⊢
       have HO565 := n0_
       have BK466 := n1_
       have BK550 := n2_
       have BK561 := n3_
       have BK566 := n4_
       have HB := n5_
       clear n0_ n1_ n2_ n3_ n4_ n5_
       have n0_ := Aside0.mk (Kd.R_drew HO565.out)
       have n1_ := Aside0.mk (blk_drew BK466.out)
       have n2_ := Aside0.mk (blk_drew BK550.out)
       have n3_ := Aside0.mk (blk_drew BK561.out)
       have n4_ := Aside0.mk (blk_drew BK566.out)
       have n5_ := Aside0.mk (below_drew1 HB.out)
       clear HO565
       clear BK466
       clear BK550
       clear BK561
       clear BK566
       clear HB
       have HO565 := n0_
       have BK466 := n1_
       have BK550 := n2_
       have BK561 := n3_
       have BK566 := n4_
       have HB := n5_
       clear n0_ n1_ n2_ n3_ n4_ n5_
       refine start_ (n := 17) (S := fun w' => w'.cell? ⟨gb566, 0, none⟩ = some (.int .i64 t562) ∧ w'.cell? ⟨gb566, 1, none⟩ = some (.slice Ao183 t563.length co183) ∧ w'.cell? ⟨gb561, 0, none⟩ = some (.int .i64 t553) ∧ w'.cell? ⟨gb561, 1, none⟩ = some (.int .i64 t554) ∧ w'.cell? ⟨gb561, 2, none⟩ = some (.int .i64 t555) ∧ w'.cell? ⟨gb561, 3, none⟩ = some (.int .i64 t556) ∧ w'.cell? ⟨gb561, 4, none⟩ = some (.int .i64 t557) ∧ w'.cell? ⟨gb561, 5, none⟩ = some (.int .i64 t558) ∧ w'.cell? ⟨gb561, 6, none⟩ = some (.int .i64 t559)) (ds := []) #[false, false, false, false, false, false, false, false, false, false, false, false, false, false, false, false, false] (by kernel_rfl) rfl rfl ⟨(blk_cell BK566.out 0).trans rfl, (blk_cell BK566.out 1).trans rfl, (blk_cell BK561.out 0).trans rfl, (blk_cell BK561.out 1).trans rfl, (blk_cell BK561.out 2).trans rfl, (blk_cell BK561.out 3).trans rfl, (blk_cell BK561.out 4).trans rfl, (blk_cell BK561.out 5).trans rfl, (blk_cell BK561.out 6).trans rfl⟩ (fun hHeld => ?_); refine with_tabW laws_FnWays.tab12 laws_FnWays.bits12 (fun HT_ HW_ => ?_)
       generalize w184.drew = w185 at HO565 BK466 BK550 BK561 BK566 HB hHeld ⊢
       refine pure_ (i := 0) (N := some 58) (v := ?_) (a' := ?_) #[true, false, false, false, false, false, false, false, false, false, false, false, false, false, false, false, false] rfl rfl (any_of HT_.out (by kernel_rfl)) (fun _ _ _ h => h) (Or.inl ⟨by rfl, ?_⟩) ?_ ?_
       rotate_left
       ·intro w'
        go_simp
        with_reducible rfl
       rotate_left
       ·simp only [Act.put, List.setIfInBounds_toArray, List.set_cons_zero, List.set_cons_succ, i64_w, i32_w]
        rfl
       refine pure_ (i := 3) (N := some 61) (v := ?_) (a' := ?_) #[true, false, false, true, false, false, false, false, false, false, false, false, false, false, false, false, false] rfl rfl (any_of HT_.out (by kernel_rfl)) (fun _ _ _ h => h) (Or.inl ⟨by rfl, ?_⟩) ?_ ?_
       rotate_left
       ·intro w'
        go_simp
        with_reducible rfl
       rotate_left
       ·simp only [Act.put, List.setIfInBounds_toArray, List.set_cons_zero, List.set_cons_succ, i64_w, i32_w]
        rfl
       refine take_ (i := 1) (N := some 59) (v := ?_) (a' := ?_) #[true, true, false, true, false, false, false, false, false, false, false, false, false, false, false, false, false] rfl rfl (take_ofW HT_.out HW_.out (by kernel_rfl)) (fun _ _ _ h => h) (Or.inl ⟨by rfl, ?_⟩) hHeld ?_ ?_
       rotate_left
       ·rintro w' ⟨s0, s1, s2, s3, s4, s5, s6, s7, s8⟩
        go_simp
        with_reducible rfl
       rotate_left
       ·simp only [Act.put, List.setIfInBounds_toArray, List.set_cons_zero, List.set_cons_succ, i64_w, i32_w]
        rfl
       refine take_ (i := 2) (N := some 60) (v := ?_) (a' := ?_) #[true, true, true, true, false, false, false, false, false, false, false, false, false, false, false, false, false] rfl rfl (take_ofW HT_.out HW_.out (by kernel_rfl)) (fun _ _ _ h => h) (Or.inl ⟨by rfl, ?_⟩) hHeld ?_ ?_
       rotate_left
       ·rintro w' ⟨s0, s1, s2, s3, s4, s5, s6, s7, s8⟩
        go_simp
        with_reducible rfl
       rotate_left
       ·simp only [Act.put, List.setIfInBounds_toArray, List.set_cons_zero, List.set_cons_succ, i64_w, i32_w]
        rfl
       refine one_ (i := 4) (N := some 62) #[true, true, true, true, true, false, false, false, false, false, false, false, false, false, false, false, false] rfl rfl (one_of HT_.out (by kernel_rfl)) (by decide) (fun K hK => ?_)
       refine goes_ Tryd.func32 (by kernel_rfl) rfl #[.agg #[.int .i64 t553, .int .i64 t554, .int .i64 t555, .int .i64 t556, .int .i64 t557, .int .i64 t558, .int .i64 t559], .int .u8 t560] (by rfl) rfl rfl (by (try simp only [List.map_toArray, List.map_cons, List.map_nil]); first | done | rfl | (simp only [List.length_drop, List.length_take]; rfl)) ?_
       with_reducible refine (spec_ShownByte.calls k t553 t554 t555 t556 t557 t558 t559 t560 t567 t568 _ A141.out).mono ?_
       rintro e w186 ⟨v569, rfl, ho0, hb⟩
       refine ⟨_, rfl, ?_⟩
       have n0_ := Aside0.mk (Kd.R_elder' (by (with_reducible repeat (first | apply Kd.R_alloc | apply Kd.R_drewN | apply Kd.R_drew)); exact HO565.out) (Kd.R_base ho0) hb)
       have n1_ := Aside0.mk (Kd.R_lower (Kd.R_new' ho0 (Kd.R_lt (by (with_reducible repeat (first | apply Kd.R_alloc | apply Kd.R_drewN | apply Kd.R_drew)); exact HO565.out))) (below_size (by repeat (first | (with_reducible first | exact HB.out | apply below_alloc | apply pw_below_drewN | apply below_drew1 | refine below_set ?_ GE466.out | refine below_set ?_ GE550.out | refine below_set ?_ GE561.out | refine below_set ?_ GE566.out) | exact HB.out))))
       have n2_ := Aside0.mk (blkb hb BK466.out)
       have n3_ := Aside0.mk (blkb hb BK550.out)
       have n4_ := Aside0.mk (blkb hb BK561.out)
       have n5_ := Aside0.mk (blkb hb BK566.out)
       have n6_ := Aside0.mk (below_step (by repeat (first | (with_reducible first | exact HB.out | apply below_alloc | apply pw_below_drewN | apply below_drew1 | refine below_set ?_ GE466.out | refine below_set ?_ GE550.out | refine below_set ?_ GE561.out | refine below_set ?_ GE566.out) | exact HB.out)) hb)
       clear HO565
       clear BK466
       clear BK550
       clear BK561
       clear BK566
       clear HB
       have HO565 := n0_
       have HO570 := n1_
       have BK466 := n2_
       have BK550 := n3_
       have BK561 := n4_
       have BK566 := n5_
       have HB := n6_
       clear n0_ n1_ n2_ n3_ n4_ n5_ n6_
       (try clear hb)
       (try clear hb2)
       (try clear hk)
       (try clear hi)
       (try clear ho0)
       refine hK.out _ _ ⟨(blk_cell BK566.out 0).trans rfl, (blk_cell BK566.out 1).trans rfl, (blk_cell BK561.out 0).trans rfl, (blk_cell BK561.out 1).trans rfl, (blk_cell BK561.out 2).trans rfl, (blk_cell BK561.out 3).trans rfl, (blk_cell BK561.out 4).trans rfl, (blk_cell BK561.out 5).trans rfl, (blk_cell BK561.out 6).trans rfl⟩ (fun hHeld => ?_)
       clear hK K
       refine norm_ (a' := ?_) ?_ ?_
       rotate_left
       ·show Act.put _ (some 62) _ = _
        simp only [Act.put, List.setIfInBounds_toArray, List.set_cons_zero, List.set_cons_succ, i64_w, i32_w]
        rfl
       refine pure_ (i := 5) (N := some 63) (v := ?_) (a' := ?_) #[true, true, true, true, true, true, false, false, false, false, false, false, false, false, false, false, false] rfl rfl (any_of HT_.out (by kernel_rfl)) (fun _ _ _ h => h) (Or.inl ⟨by rfl, ?_⟩) ?_ ?_
       rotate_left
       ·intro w'
        go_simp
        with_reducible rfl
       rotate_left
       ·simp only [Act.put, List.setIfInBounds_toArray, List.set_cons_zero, List.set_cons_succ, i64_w, i32_w]
        rfl
       refine pure_ (i := 6) (N := some 64) (v := ?_) (a' := ?_) #[true, true, true, true, true, true, true, false, false, false, false, false, false, false, false, false, false] rfl rfl (any_of HT_.out (by kernel_rfl)) (fun _ _ _ h => h) (Or.inl ⟨by rfl, ?_⟩) ?_ ?_
       rotate_left
       ·intro w'
        go_simp
        with_reducible rfl
       rotate_left
       ·simp only [Act.put, List.setIfInBounds_toArray, List.set_cons_zero, List.set_cons_succ, i64_w, i32_w]
        rfl
       refine pure_ (i := 7) (N := some 65) (v := ?_) (a' := ?_) #[true, true, true, true, true, true, true, true, false, false, false, false, false, false, false, false, false] rfl rfl (any_of HT_.out (by kernel_rfl)) (fun _ _ _ h => h) (Or.inl ⟨by rfl, ?_⟩) ?_ ?_
       rotate_left
       ·intro w'
        go_simp
        with_reducible rfl
       rotate_left
       ·simp only [Act.put, List.setIfInBounds_toArray, List.set_cons_zero, List.set_cons_succ, i64_w, i32_w]
        rfl
       refine pure_ (i := 8) (N := some 66) (v := ?_) (a' := ?_) #[true, true, true, true, true, true, true, true, true, false, false, false, false, false, false, false, false] rfl rfl (any_of HT_.out (by kernel_rfl)) (fun _ _ _ h => h) (Or.inl ⟨by rfl, ?_⟩) ?_ ?_
       rotate_left
       ·intro w'
        go_simp
        with_reducible rfl
       rotate_left
       ·simp only [Act.put, List.setIfInBounds_toArray, List.set_cons_zero, List.set_cons_succ, i64_w, i32_w]
        rfl
       refine pure_ (i := 11) (N := some 69) (v := ?_) (a' := ?_) #[true, true, true, true, true, true, true, true, true, false, false, true, false, false, false, false, false] rfl rfl (any_of HT_.out (by kernel_rfl)) (fun _ _ _ h => h) (Or.inl ⟨by rfl, ?_⟩) ?_ ?_
       rotate_left
       ·intro w'
        go_simp
        with_reducible rfl
       rotate_left
       ·simp only [Act.put, List.setIfInBounds_toArray, List.set_cons_zero, List.set_cons_succ, i64_w, i32_w]
        rfl
       refine take_ (i := 9) (N := some 67) (v := ?_) (a' := ?_) #[true, true, true, true, true, true, true, true, true, true, false, true, false, false, false, false, false] rfl rfl (take_ofW HT_.out HW_.out (by kernel_rfl)) (fun _ _ _ h => h) (Or.inl ⟨by rfl, ?_⟩) hHeld ?_ ?_
       rotate_left
       ·rintro w' ⟨s0, s1, s2, s3, s4, s5, s6, s7, s8⟩
        go_simp
        with_reducible rfl
       rotate_left
       ·simp only [Act.put, List.setIfInBounds_toArray, List.set_cons_zero, List.set_cons_succ, i64_w, i32_w]
        rfl
       refine take_ (i := 10) (N := some 68) (v := ?_) (a' := ?_) #[true, true, true, true, true, true, true, true, true, true, true, true, false, false, false, false, false] rfl rfl (take_ofW HT_.out HW_.out (by kernel_rfl)) (fun _ _ _ h => h) (Or.inl ⟨by rfl, ?_⟩) hHeld ?_ ?_
       rotate_left
       ·rintro w' ⟨s0, s1, s2, s3, s4, s5, s6, s7, s8⟩
        go_simp
        with_reducible rfl
       rotate_left
       ·simp only [Act.put, List.setIfInBounds_toArray, List.set_cons_zero, List.set_cons_succ, i64_w, i32_w]
        rfl
       refine one_ (i := 12) (N := some 70) #[true, true, true, true, true, true, true, true, true, true, true, true, true, false, false, false, false] rfl rfl (one_of HT_.out (by kernel_rfl)) (by decide) (fun K hK => ?_)
       refine goes_ Tryd.func32 (by kernel_rfl) rfl #[.agg #[.int .i64 t553, .int .i64 t554, .int .i64 t555, .int .i64 t556, .int .i64 t557, .int .i64 t558, .int .i64 t559], .int .u8 t560] (by rfl) rfl rfl (by (try simp only [List.map_toArray, List.map_cons, List.map_nil]); first | done | rfl | (simp only [List.length_drop, List.length_take]; rfl)) ?_
       with_reducible refine (spec_ShownByte.calls k t553 t554 t555 t556 t557 t558 t559 t560 t571 t572 _ A143.out).mono ?_
       rintro e w187 ⟨v573, rfl, ho0, hb⟩
       refine ⟨_, rfl, ?_⟩
       have n0_ := Aside0.mk (Kd.R_elder' (by (with_reducible repeat (first | apply Kd.R_alloc | apply Kd.R_drewN | apply Kd.R_drew)); exact HO565.out) (Kd.R_base ho0) hb)
       have n1_ := Aside0.mk (Kd.R_elder' (by (with_reducible repeat (first | apply Kd.R_alloc | apply Kd.R_drewN | apply Kd.R_drew)); exact HO570.out) (Kd.R_base ho0) hb)
       have n2_ := Aside0.mk (Kd.R_lower (Kd.R_new' (Kd.R_new' ho0 (Kd.R_lt (by (with_reducible repeat (first | apply Kd.R_alloc | apply Kd.R_drewN | apply Kd.R_drew)); exact HO565.out))) (Kd.R_lt (by (with_reducible repeat (first | apply Kd.R_alloc | apply Kd.R_drewN | apply Kd.R_drew)); exact HO570.out))) (below_size (by repeat (first | (with_reducible first | exact HB.out | apply below_alloc | apply pw_below_drewN | apply below_drew1 | refine below_set ?_ GE466.out | refine below_set ?_ GE550.out | refine below_set ?_ GE561.out | refine below_set ?_ GE566.out) | exact HB.out))))
       have n3_ := Aside0.mk (blkb hb BK466.out)
       have n4_ := Aside0.mk (blkb hb BK550.out)
       have n5_ := Aside0.mk (blkb hb BK561.out)
       have n6_ := Aside0.mk (blkb hb BK566.out)
       have n7_ := Aside0.mk (below_step (by repeat (first | (with_reducible first | exact HB.out | apply below_alloc | apply pw_below_drewN | apply below_drew1 | refine below_set ?_ GE466.out | refine below_set ?_ GE550.out | refine below_set ?_ GE561.out | refine below_set ?_ GE566.out) | exact HB.out)) hb)
       clear HO565
       clear HO570
       clear BK466
       clear BK550
       clear BK561
       clear BK566
       clear HB
       have HO565 := n0_
       have HO570 := n1_
       have HO574 := n2_
       have BK466 := n3_
       have BK550 := n4_
       have BK561 := n5_
       have BK566 := n6_
       have HB := n7_
       clear n0_ n1_ n2_ n3_ n4_ n5_ n6_ n7_
       (try clear hb)
       (try clear hb2)
       (try clear hk)
       (try clear hi)
       (try clear ho0)
       obtain ⟨Ao188, co188, eo188⟩ := Kd.R_slice HO574.out
       (first | subst eo188 | (injection eo188 with f1_ f2_ f3_; have f4_ := f1_.symm; have f5_ := f3_.symm; clear f1_ f2_ f3_; subst f4_; subst f5_))
       refine hK.out _ _ ⟨(blk_cell BK566.out 0).trans rfl, (blk_cell BK566.out 1).trans rfl, (blk_cell BK561.out 0).trans rfl, (blk_cell BK561.out 1).trans rfl, (blk_cell BK561.out 2).trans rfl, (blk_cell BK561.out 3).trans rfl, (blk_cell BK561.out 4).trans rfl, (blk_cell BK561.out 5).trans rfl, (blk_cell BK561.out 6).trans rfl⟩ (fun hHeld => ?_)
       clear hK K
       refine norm_ (a' := ?_) ?_ ?_
       rotate_left
       ·show Act.put _ (some 70) _ = _
        simp only [Act.put, List.setIfInBounds_toArray, List.set_cons_zero, List.set_cons_succ, i64_w, i32_w]
        rfl
       refine pure_ (i := 13) (N := some 71) (v := ?_) (a' := ?_) #[true, true, true, true, true, true, true, true, true, true, true, true, true, true, false, false, false] rfl rfl (any_of HT_.out (by kernel_rfl)) (fun _ _ _ h => h) (Or.inl ⟨by rfl, ?_⟩) ?_ ?_
       rotate_left
       ·intro w'
        go_simp
        with_reducible rfl
       rotate_left
       ·simp only [Act.put, List.setIfInBounds_toArray, List.set_cons_zero, List.set_cons_succ, i64_w, i32_w]
        rfl
       refine one_ (i := 14) (N := some 72) #[true, true, true, true, true, true, true, true, true, true, true, true, true, true, true, false, false] rfl rfl (one_of HT_.out (by kernel_rfl)) (by decide) (fun K hK => ?_)
       refine goes_ Tryd.func33 (by kernel_rfl) rfl #[.slice Ao183 t563.length co183, .slice Ao188 t572.length co188] (by rfl) rfl rfl (by (try simp only [List.map_toArray, List.map_cons, List.map_nil]); first | done | rfl | (simp only [List.length_drop, List.length_take]; rfl)) ?_
       with_reducible refine (laws_lwSame.calls _ _ t563 _ _ t572 true _ ?side1 ?side2 ?side3 ?side4 A144.out).mono ?_
       (case side1 => repeat (first | exact (Kd.R_reads' HO565.out).2.2 | (with_reducible refine Kd.C_alloc ?_ _) | (with_reducible refine Kd.C_drewN ?_ _) | (with_reducible refine Kd.C_drew ?_)))
       (case side2 => exact (Kd.R_reads' HO565.out).2.1)
       (case side3 => repeat (first | exact (Kd.R_reads' HO574.out).2.2 | (with_reducible refine Kd.C_alloc ?_ _) | (with_reducible refine Kd.C_drewN ?_ _) | (with_reducible refine Kd.C_drew ?_)))
       (case side4 => exact (Kd.R_reads' HO574.out).2.1)
       rintro e w' ⟨rfl, ⟨nd, rfl⟩⟩
       refine ⟨_, rfl, ?_⟩
       refine hK.out _ _ ⟨(blk_cell BK566.out 0).trans rfl, (blk_cell BK566.out 1).trans rfl, (blk_cell BK561.out 0).trans rfl, (blk_cell BK561.out 1).trans rfl, (blk_cell BK561.out 2).trans rfl, (blk_cell BK561.out 3).trans rfl, (blk_cell BK561.out 4).trans rfl, (blk_cell BK561.out 5).trans rfl, (blk_cell BK561.out 6).trans rfl⟩ (fun hHeld => ?_)
       clear hK K
       refine norm_ (a' := ?_) ?_ ?_
       rotate_left
       ·show Act.put _ (some 72) _ = _
        simp only [Act.put, List.setIfInBounds_toArray, List.set_cons_zero, List.set_cons_succ, i64_w, i32_w]
        rfl
       refine pure_ (i := 15) (N := some 73) (v := ?_) (a' := ?_) #[true, true, true, true, true, true, true, true, true, true, true, true, true, true, true, true, false] rfl rfl (any_of HT_.out (by kernel_rfl)) (fun _ _ _ h => h) (Or.inl ⟨by rfl, ?_⟩) ?_ ?_
       rotate_left
       ·intro w'
        go_simp
        with_reducible rfl
       rotate_left
       ·simp only [Act.put, List.setIfInBounds_toArray, List.set_cons_zero, List.set_cons_succ, i64_w, i32_w]
        rfl
       refine pure_ (i := 16) (N := some 74) (v := ?_) (a' := ?_) #[true, true, true, true, true, true, true, true, true, true, true, true, true, true, true, true, true] rfl rfl (any_of HT_.out (by kernel_rfl)) (fun _ _ _ h => h) (Or.inl ⟨by rfl, ?_⟩) ?_ ?_
       rotate_left
       ·intro w'
        go_simp
        with_reducible rfl
       rotate_left
       ·simp only [Act.put, List.setIfInBounds_toArray, List.set_cons_zero, List.set_cons_succ, i64_w, i32_w]
        rfl
       refine done_ (done_of HT_.out (by kernel_rfl)) ?_
       refine hide_B (fun g_ hg_ => ?_)
       have H := HH_.out
       clear HH_
       by_cases c148 : t577 = 0
       ·rw [if_pos c148] at H
        have c148b0 : (t577 == 0) = true := beq_iff_eq.mpr c148
        have c148b1 : (t577 != 0) = false := bne_eq_false_iff_eq.mpr c148
        clear c148
        replace H := Option.bind_eq_some_iff.mp H
        obtain ⟨⟨t586, t587⟩, A1490, H⟩ := H
        (try dsimp only at H)
        have A149 := Aside0.mk A1490
        clear A1490
        replace H := Option.bind_eq_some_iff.mp H
        obtain ⟨t589, A1500, H⟩ := H
        (try dsimp only at H)
        have A150 := Aside0.mk A1500
        clear A1500
        by_cases c151 : t589 = 0
        ·rw [if_pos c151] at H
         have c151b0 : (t589 == 0) = true := beq_iff_eq.mpr c151
         have c151b1 : (t589 != 0) = false := bne_eq_false_iff_eq.mpr c151
         clear c151
         by_cases c152 : t578 = t576
         ·rw [if_pos c152] at H
          have c152b0 : (t578 == t576) = true := beq_iff_eq.mpr c152
          have c152b1 : (t578 != t576) = false := bne_eq_false_iff_eq.mpr c152
          clear c152
          by_cases c153 : t586 = 0
          ·rw [if_pos c153] at H
           have c153b0 : (t586 == 0) = true := beq_iff_eq.mpr c153
           have c153b1 : (t586 != 0) = false := bne_eq_false_iff_eq.mpr c153
           clear c153
           replace H := Option.bind_eq_some_iff.mp H
           obtain ⟨⟨t590, t591, t592, t593, t594, t595, t596, t597⟩, A1540, H⟩ := H
           (try dsimp only at H)
           have A154 := Aside0.mk A1540
           clear A1540
           by_cases c155 : (t591 == t578 && (t592 == t579 && (t593 == t580 && (t594 == t581 && (t595 == t582 && (t596 == t583 && (t597 == t584))))))) = true
           ·rw [if_pos c155] at H
            have c155b0 : (t591 == t578 && (t592 == t579 && (t593 == t580 && (t594 == t581 && (t595 == t582 && (t596 == t583 && (t597 == t584))))))) = true := c155
            (try (have c155b1 : decide (t591 = t578 && (t592 == t579 && (t593 == t580 && (t594 == t581 && (t595 == t582 && (t596 == t583 && (t597 == t584))))))) = true := by simpa using c155))
            (try (have c155b2 : (t591 == t578 && (t592 == t579 && (t593 == t580 && (t594 == t581 && (t595 == t582 && (t596 == t583 && (t597 == t584))))))) = true := by simpa using c155))
            clear c155
            replace H := Option.bind_eq_some_iff.mp H
            obtain ⟨t598, A1560, H⟩ := H
            (try dsimp only at H)
            have A156 := Aside0.mk A1560
            clear A1560
            have hb_ := Option.some.inj H
            clear H
            refine hg_ ?_
            clear hg_ g_
            try go_wp2_with (first | ((with_reducible refine gate_callee (f := 34) rfl ?_); refine goesL_ (some 76) rfl rfl Tryd.func34 (by kernel_rfl) rfl #[.slice A0 l0.length c0] rfl (by (try simp only [List.map_toArray, List.map_cons, List.map_nil]); first | done | rfl | (simp only [List.length_drop, List.length_take]; rfl)) ?_; (with_reducible refine (spec_DrawUsualWay.calls _ _ l0 t576 _ ?side1 ?side2 A146.out).mono ?_); (case side1 => repeat (first | exact (Kd.C_below HR0.out (by repeat (first | (with_reducible first | exact HB.out | apply below_alloc | apply pw_below_drewN | apply below_drew1 | refine below_set ?_ GE466.out | refine below_set ?_ GE550.out | refine below_set ?_ GE561.out | refine below_set ?_ GE566.out) | exact HB.out))) | (with_reducible refine Kd.C_alloc ?_ _) | (with_reducible refine Kd.C_drewN ?_ _) | (with_reducible refine Kd.C_drew ?_))); (case side2 => exact HC0.out); rintro e w189 ⟨rfl, hb⟩; refine ⟨_, rfl, ?_⟩; have n0_ := Aside0.mk (Kd.R_below (by (with_reducible repeat (first | apply Kd.R_alloc | apply Kd.R_drewN | apply Kd.R_drew)); exact HO565.out) hb); have n1_ := Aside0.mk (Kd.R_below (by (with_reducible repeat (first | apply Kd.R_alloc | apply Kd.R_drewN | apply Kd.R_drew)); exact HO570.out) hb); have n2_ := Aside0.mk (Kd.R_below (by (with_reducible repeat (first | apply Kd.R_alloc | apply Kd.R_drewN | apply Kd.R_drew)); exact HO574.out) hb); have n3_ := Aside0.mk (blkb hb BK466.out); have n4_ := Aside0.mk (blkb hb BK550.out); have n5_ := Aside0.mk (blkb hb BK561.out); have n6_ := Aside0.mk (blkb hb BK566.out); have n7_ := Aside0.mk (below_step (by repeat (first | (with_reducible first | exact HB.out | apply below_alloc | apply pw_below_drewN | apply below_drew1 | refine below_set ?_ GE466.out | refine below_set ?_ GE550.out | refine below_set ?_ GE561.out | refine below_set ?_ GE566.out) | exact HB.out)) hb); clear HO565; clear HO570; clear HO574; clear BK466; clear BK550; clear BK561; clear BK566; clear HB; have HO565 := n0_; have HO570 := n1_; have HO574 := n2_; have BK466 := n3_; have BK550 := n4_; have BK561 := n5_; have BK566 := n6_; have HB := n7_; clear n0_ n1_ n2_ n3_ n4_ n5_ n6_ n7_; (try clear hb); (try clear hb2); (try clear hk); (try clear hi)) | ((with_reducible refine gate_callee (f := 35) rfl ?_); refine goesL_ (some 78) rfl rfl Tryd.func35 (by kernel_rfl) rfl #[.int .i64 t576] rfl (by (try simp only [List.map_toArray, List.map_cons, List.map_nil]); first | done | rfl | (simp only [List.length_drop, List.length_take]; rfl)) ?_; (with_reducible refine (impl_UsualWay.calls t576 t577 t578 t579 t580 t581 t582 t583 t584 _ A147.out).mono ?_); rintro e w190 ⟨rfl, hb⟩; refine ⟨_, rfl, ?_⟩; have n0_ := Aside0.mk (Kd.R_below (by (with_reducible repeat (first | apply Kd.R_alloc | apply Kd.R_drewN | apply Kd.R_drew)); exact HO565.out) hb); have n1_ := Aside0.mk (Kd.R_below (by (with_reducible repeat (first | apply Kd.R_alloc | apply Kd.R_drewN | apply Kd.R_drew)); exact HO570.out) hb); have n2_ := Aside0.mk (Kd.R_below (by (with_reducible repeat (first | apply Kd.R_alloc | apply Kd.R_drewN | apply Kd.R_drew)); exact HO574.out) hb); have n3_ := Aside0.mk (blkb hb BK466.out); have n4_ := Aside0.mk (blkb hb BK550.out); have n5_ := Aside0.mk (blkb hb BK561.out); have n6_ := Aside0.mk (blkb hb BK566.out); have n7_ := Aside0.mk (below_step (by repeat (first | (with_reducible first | exact HB.out | apply below_alloc | apply pw_below_drewN | apply below_drew1 | refine below_set ?_ GE466.out | refine below_set ?_ GE550.out | refine below_set ?_ GE561.out | refine below_set ?_ GE566.out) | exact HB.out)) hb); clear HO565; clear HO570; clear HO574; clear BK466; clear BK550; clear BK561; clear BK566; clear HB; have HO565 := n0_; have HO570 := n1_; have HO574 := n2_; have BK466 := n3_; have BK550 := n4_; have BK561 := n5_; have BK566 := n6_; have HB := n7_; clear n0_ n1_ n2_ n3_ n4_ n5_ n6_ n7_; (try clear hb); (try clear hb2); (try clear hk); (try clear hi)) | ((with_reducible refine gate_dst (N := 11) rfl ?_); refine box_event ?hg (N := 11) ?hd (cs := #[.int .i64 0, .int .i64 0, .int .i64 0, .int .i64 0, .int .i64 0, .int .i64 0, .int .i64 0, .int .i64 0]) (t := 46) ?hr ?_; (case hd => rfl); (case hg => rfl); (case hr => first | (go_simp; done) | (go_simp; rfl)); intro gb585 hg w191 hbox hb; have n0_ := Aside0.mk (Kd.R_below (by (with_reducible repeat (first | apply Kd.R_alloc | apply Kd.R_drewN | apply Kd.R_drew)); exact HO565.out) hb); have n1_ := Aside0.mk (Kd.R_below (by (with_reducible repeat (first | apply Kd.R_alloc | apply Kd.R_drewN | apply Kd.R_drew)); exact HO570.out) hb); have n2_ := Aside0.mk (Kd.R_below (by (with_reducible repeat (first | apply Kd.R_alloc | apply Kd.R_drewN | apply Kd.R_drew)); exact HO574.out) hb); have n3_ := Aside0.mk (blkb hb BK466.out); have n4_ := Aside0.mk (blkb hb BK550.out); have n5_ := Aside0.mk (blkb hb BK561.out); have n6_ := Aside0.mk (blkb hb BK566.out); have n7_ := Aside0.mk (below_step (by repeat (first | (with_reducible first | exact HB.out | apply below_alloc | apply pw_below_drewN | apply below_drew1 | refine below_set ?_ GE466.out | refine below_set ?_ GE550.out | refine below_set ?_ GE561.out | refine below_set ?_ GE566.out) | exact HB.out)) hb); have n8_ := Aside0.mk (hbox); have n9_ := Aside0.mk ((by rw [hg]; exact (below_size (by repeat (first | (with_reducible first | exact HB.out | apply below_alloc | apply pw_below_drewN | apply below_drew1 | refine below_set ?_ GE466.out | refine below_set ?_ GE550.out | refine below_set ?_ GE561.out | refine below_set ?_ GE566.out) | exact HB.out))) : w.heap.size ≤ gb585)); have n10_ := Aside0.mk ((by rw [hg]; exact (below_size (by repeat (first | (with_reducible first | exact HB.out | apply below_alloc | apply pw_below_drewN | apply below_drew1 | refine below_set ?_ GE466.out | refine below_set ?_ GE550.out | refine below_set ?_ GE561.out | refine below_set ?_ GE566.out) | exact HB.out))) : w.heap.size ≤ gb585)); have n11_ := Aside0.mk ((blkn hg BK466.out)); have n12_ := Aside0.mk ((blkm hg BK466.out)); have n13_ := Aside0.mk ((blkn hg BK550.out)); have n14_ := Aside0.mk ((blkm hg BK550.out)); have n15_ := Aside0.mk ((blkn hg BK561.out)); have n16_ := Aside0.mk ((blkm hg BK561.out)); have n17_ := Aside0.mk ((blkn hg BK566.out)); have n18_ := Aside0.mk ((blkm hg BK566.out)); clear HO565; clear HO570; clear HO574; clear BK466; clear BK550; clear BK561; clear BK566; clear HB; have HO565 := n0_; have HO570 := n1_; have HO574 := n2_; have BK466 := n3_; have BK550 := n4_; have BK561 := n5_; have BK566 := n6_; have HB := n7_; have BK585 := n8_; have GW585 := n9_; have GE585 := n10_; have NB466_585 := n11_; have NB585_466 := n12_; have NB550_585 := n13_; have NB585_550 := n14_; have NB561_585 := n15_; have NB585_561 := n16_; have NB566_585 := n17_; have NB585_566 := n18_; clear n0_ n1_ n2_ n3_ n4_ n5_ n6_ n7_ n8_ n9_ n10_ n11_ n12_ n13_ n14_ n15_ n16_ n17_ n18_; clear hb hbox hg; have hnb192 := NB585_466.out; have hnc192 := NB466_585.out; have hnb193 := NB585_550.out; have hnc193 := NB550_585.out; have hnb194 := NB585_561.out; have hnc194 := NB561_585.out; have hnb195 := NB585_566.out; have hnc195 := NB566_585.out; have hcz196_0 : w191.cell? ⟨gb585, 0, none⟩ = some (.int .i64 0) := (blk_cell BK585.out 0).trans rfl; have hcz196_1 : w191.cell? ⟨gb585, 1, none⟩ = some (.int .i64 0) := (blk_cell BK585.out 1).trans rfl; have hcz196_2 : w191.cell? ⟨gb585, 2, none⟩ = some (.int .i64 0) := (blk_cell BK585.out 2).trans rfl; have hcz196_3 : w191.cell? ⟨gb585, 3, none⟩ = some (.int .i64 0) := (blk_cell BK585.out 3).trans rfl; have hcz196_4 : w191.cell? ⟨gb585, 4, none⟩ = some (.int .i64 0) := (blk_cell BK585.out 4).trans rfl; have hcz196_5 : w191.cell? ⟨gb585, 5, none⟩ = some (.int .i64 0) := (blk_cell BK585.out 5).trans rfl; have hcz196_6 : w191.cell? ⟨gb585, 6, none⟩ = some (.int .i64 0) := (blk_cell BK585.out 6).trans rfl; have hcz196_7 : w191.cell? ⟨gb585, 7, none⟩ = some (.int .i64 0) := (blk_cell BK585.out 7).trans rfl; have hfz196_0 := blk_frozen BK585.out 0; have hfz196_1 := blk_frozen BK585.out 1; have hfz196_2 := blk_frozen BK585.out 2; have hfz196_3 := blk_frozen BK585.out 3; have hfz196_4 := blk_frozen BK585.out 4; have hfz196_5 := blk_frozen BK585.out 5; have hfz196_6 := blk_frozen BK585.out 6; have hfz196_7 := blk_frozen BK585.out 7) | ((with_reducible refine gate_store (t := 46) (p := 11) rfl ?_); refine Go.Proofs.YtpoafgokngpglaaDoorCells.store_whole (ty := 46) (x := .tmp 11) (y := ?vo_w197) (g := gb585) (cells := [.int .i64 t577, .int .i64 t578, .int .i64 t579, .int .i64 t580, .int .i64 t581, .int .i64 t582, .int .i64 t583, .int .i64 t584]) (t := 46) (old := [.int .i64 0, .int .i64 0, .int .i64 0, .int .i64 0, .int .i64 0, .int .i64 0, .int .i64 0, .int .i64 0]) ?hg ?ho ?hx ?hy ?hn ?hb ?hi rfl rfl ?_; (case ho => rfl); (case hg => rfl); (case hn => rfl); (case hx => rfl); (case hy => first | rfl | (go_simp; done) | (simp [*]; done)); (case hb => exact (by (with_reducible repeat (first | refine blk_drewN ?_ _ | refine blk_drew ?_ | refine blk_alloc ?_ _)); exact BK585.out)); (case hi => kernel_rfl); intro w197 hob_ hbk hfar hbel; have n0_ : Aside0 (Kd.R (Kd.int .u8) 5 w197 w.heap.size (fun k_ => some k_ ≠ (v569 : Value).ownBlock ∧ some k_ ≠ (.slice Ao188 t572.length co188 : Value).ownBlock) (.slice Ao183 t563.length co183) t563) := ⟨Go.Proofs.YtpoafgokngpglaaDoorCells.R_whole (by (with_reducible repeat (first | apply Kd.R_alloc | apply Kd.R_drewN | apply Kd.R_drew)); exact Kd.R_mono HO565.out (fun _ hk => ⟨hk.1.2, hk.2⟩)) hob_ (by decide) hfar⟩; have n1_ : Aside0 (Kd.R (Kd.int .u8) 5 w197 w.heap.size (fun k_ => some k_ ≠ (.slice Ao183 t563.length co183 : Value).ownBlock ∧ some k_ ≠ (.slice Ao188 t572.length co188 : Value).ownBlock) v569 t568) := ⟨Go.Proofs.YtpoafgokngpglaaDoorCells.R_whole (by (with_reducible repeat (first | apply Kd.R_alloc | apply Kd.R_drewN | apply Kd.R_drew)); exact Kd.R_mono HO570.out (fun _ hk => ⟨hk.1.2, hk.2⟩)) hob_ (by decide) hfar⟩; have n2_ : Aside0 (Kd.R (Kd.int .u8) 5 w197 w.heap.size (fun k_ => some k_ ≠ (.slice Ao183 t563.length co183 : Value).ownBlock ∧ some k_ ≠ (v569 : Value).ownBlock) (.slice Ao188 t572.length co188) t572) := ⟨Go.Proofs.YtpoafgokngpglaaDoorCells.R_whole (by (with_reducible repeat (first | apply Kd.R_alloc | apply Kd.R_drewN | apply Kd.R_drew)); exact Kd.R_mono HO574.out (fun _ hk => ⟨hk.1.2, hk.2⟩)) hob_ (by decide) hfar⟩; have n3_ : Aside0 (w197.heap[gb466]? = some (.cells #[.int .i64 t458, .int .i64 t459, .int .i64 t460, .int .i64 t461, .int .i64 t462, .int .i64 t463, .int .i64 t464, .int .i64 t465] 46 (0, 0))) := ⟨(hfar _ NB466_585.out).trans (by (with_reducible repeat (first | refine blk_drewN ?_ _ | refine blk_drew ?_ | refine blk_alloc ?_ _)); exact BK466.out)⟩; have n4_ : Aside0 (w197.heap[gb550]? = some (.cells #[.int .i64 t542, .int .i64 t543, .int .i64 t544, .int .i64 t545, .int .i64 t546, .int .i64 t547, .int .i64 t548] 41 (0, 0))) := ⟨(hfar _ NB550_585.out).trans (by (with_reducible repeat (first | refine blk_drewN ?_ _ | refine blk_drew ?_ | refine blk_alloc ?_ _)); exact BK550.out)⟩; have n5_ : Aside0 (w197.heap[gb561]? = some (.cells #[.int .i64 t553, .int .i64 t554, .int .i64 t555, .int .i64 t556, .int .i64 t557, .int .i64 t558, .int .i64 t559] 41 (0, 0))) := ⟨(hfar _ NB561_585.out).trans (by (with_reducible repeat (first | refine blk_drewN ?_ _ | refine blk_drew ?_ | refine blk_alloc ?_ _)); exact BK561.out)⟩; have n6_ : Aside0 (w197.heap[gb566]? = some (.cells #[.int .i64 t562, .slice Ao183 t563.length co183] 34 (0, 0))) := ⟨(hfar _ NB566_585.out).trans (by (with_reducible repeat (first | refine blk_drewN ?_ _ | refine blk_drew ?_ | refine blk_alloc ?_ _)); exact BK566.out)⟩; have n7_ : Aside0 (w197.heap[gb585]? = some (.cells #[.int .i64 t577, .int .i64 t578, .int .i64 t579, .int .i64 t580, .int .i64 t581, .int .i64 t582, .int .i64 t583, .int .i64 t584] 46 (0, 0))) := ⟨hbk⟩; have n8_ : Aside0 (Below w.heap.size w w197) := ⟨hbel _ _ GE585.out (by repeat (first | (with_reducible first | exact HB.out | apply below_alloc | apply pw_below_drewN | apply below_drew1 | refine below_set ?_ GE466.out | refine below_set ?_ GE550.out | refine below_set ?_ GE561.out | refine below_set ?_ GE566.out | refine below_set ?_ GE585.out) | exact HB.out))⟩; clear hob_ hbk hfar hbel; clear HO565; clear HO570; clear HO574; clear BK466; clear BK550; clear BK561; clear BK566; clear BK585; clear HB; have HO565 := n0_; have HO570 := n1_; have HO574 := n2_; have BK466 := n3_; have BK550 := n4_; have BK561 := n5_; have BK566 := n6_; have BK585 := n7_; have HB := n8_; clear n0_ n1_ n2_ n3_ n4_ n5_ n6_ n7_ n8_; have hcz198_0 : w197.cell? ⟨gb585, 0, none⟩ = some (.int .i64 t577) := (blk_cell BK585.out 0).trans rfl; have hcz198_1 : w197.cell? ⟨gb585, 1, none⟩ = some (.int .i64 t578) := (blk_cell BK585.out 1).trans rfl; have hcz198_2 : w197.cell? ⟨gb585, 2, none⟩ = some (.int .i64 t579) := (blk_cell BK585.out 2).trans rfl; have hcz198_3 : w197.cell? ⟨gb585, 3, none⟩ = some (.int .i64 t580) := (blk_cell BK585.out 3).trans rfl; have hcz198_4 : w197.cell? ⟨gb585, 4, none⟩ = some (.int .i64 t581) := (blk_cell BK585.out 4).trans rfl; have hcz198_5 : w197.cell? ⟨gb585, 5, none⟩ = some (.int .i64 t582) := (blk_cell BK585.out 5).trans rfl; have hcz198_6 : w197.cell? ⟨gb585, 6, none⟩ = some (.int .i64 t583) := (blk_cell BK585.out 6).trans rfl; have hcz198_7 : w197.cell? ⟨gb585, 7, none⟩ = some (.int .i64 t584) := (blk_cell BK585.out 7).trans rfl; have hfz198_0 := blk_frozen BK585.out 0; have hfz198_1 := blk_frozen BK585.out 1; have hfz198_2 := blk_frozen BK585.out 2; have hfz198_3 := blk_frozen BK585.out 3; have hfz198_4 := blk_frozen BK585.out 4; have hfz198_5 := blk_frozen BK585.out 5; have hfz198_6 := blk_frozen BK585.out 6; have hfz198_7 := blk_frozen BK585.out 7) | ((with_reducible refine gate_callee (f := 21) rfl ?_); refine goesL_ (some 90) rfl rfl Tryd.func21 (by kernel_rfl) rfl #[.agg #[.int .i64 t578, .int .i64 t579, .int .i64 t580, .int .i64 t581, .int .i64 t582, .int .i64 t583, .int .i64 t584]] rfl (by (try simp only [List.map_toArray, List.map_cons, List.map_nil]); first | done | rfl | (simp only [List.length_drop, List.length_take]; rfl)) ?_; (refine (impl_WayText.calls k t578 t579 t580 t581 t582 t583 t584 t586 t587 _ (Go.Proofs.YtpoafgokngpglaaDoorTm.TabG_below (Go.Proofs.YtpoafgokngpglaaDoorPw.TabP_G hG) (by repeat (first | (with_reducible first | exact HB.out | apply below_alloc | apply pw_below_drewN | apply below_drew1 | refine below_set ?_ GE466.out | refine below_set ?_ GE550.out | refine below_set ?_ GE561.out | refine below_set ?_ GE566.out | refine below_set ?_ GE585.out) | exact HB.out))) A149.out).mono ?_); rintro e w199 ⟨rfl, hb⟩; refine ⟨_, rfl, ?_⟩; have n0_ := Aside0.mk (Kd.R_below (by (with_reducible repeat (first | apply Kd.R_alloc | apply Kd.R_drewN | apply Kd.R_drew)); exact HO565.out) hb); have n1_ := Aside0.mk (Kd.R_below (by (with_reducible repeat (first | apply Kd.R_alloc | apply Kd.R_drewN | apply Kd.R_drew)); exact HO570.out) hb); have n2_ := Aside0.mk (Kd.R_below (by (with_reducible repeat (first | apply Kd.R_alloc | apply Kd.R_drewN | apply Kd.R_drew)); exact HO574.out) hb); have n3_ := Aside0.mk (blkb hb BK466.out); have n4_ := Aside0.mk (blkb hb BK550.out); have n5_ := Aside0.mk (blkb hb BK561.out); have n6_ := Aside0.mk (blkb hb BK566.out); have n7_ := Aside0.mk (blkb hb BK585.out); have n8_ := Aside0.mk (below_step (by repeat (first | (with_reducible first | exact HB.out | apply below_alloc | apply pw_below_drewN | apply below_drew1 | refine below_set ?_ GE466.out | refine below_set ?_ GE550.out | refine below_set ?_ GE561.out | refine below_set ?_ GE566.out | refine below_set ?_ GE585.out) | exact HB.out)) hb); clear HO565; clear HO570; clear HO574; clear BK466; clear BK550; clear BK561; clear BK566; clear BK585; clear HB; have HO565 := n0_; have HO570 := n1_; have HO574 := n2_; have BK466 := n3_; have BK550 := n4_; have BK561 := n5_; have BK566 := n6_; have BK585 := n7_; have HB := n8_; clear n0_ n1_ n2_ n3_ n4_ n5_ n6_ n7_ n8_; (try clear hb); (try clear hb2); (try clear hk); (try clear hi)) | ((with_reducible refine gate_dst (N := 12) rfl ?_); refine box_event ?hg (N := 12) ?hd (cs := #[.int .i64 0, .string (⟨#[]⟩ : ByteArray)]) (t := 39) ?hr ?_; (case hd => rfl); (case hg => rfl); (case hr => first | (go_simp; done) | (go_simp; rfl)); intro gb588 hg w200 hbox hb; have n0_ := Aside0.mk (Kd.R_below (by (with_reducible repeat (first | apply Kd.R_alloc | apply Kd.R_drewN | apply Kd.R_drew)); exact HO565.out) hb); have n1_ := Aside0.mk (Kd.R_below (by (with_reducible repeat (first | apply Kd.R_alloc | apply Kd.R_drewN | apply Kd.R_drew)); exact HO570.out) hb); have n2_ := Aside0.mk (Kd.R_below (by (with_reducible repeat (first | apply Kd.R_alloc | apply Kd.R_drewN | apply Kd.R_drew)); exact HO574.out) hb); have n3_ := Aside0.mk (blkb hb BK466.out); have n4_ := Aside0.mk (blkb hb BK550.out); have n5_ := Aside0.mk (blkb hb BK561.out); have n6_ := Aside0.mk (blkb hb BK566.out); have n7_ := Aside0.mk (blkb hb BK585.out); have n8_ := Aside0.mk (below_step (by repeat (first | (with_reducible first | exact HB.out | apply below_alloc | apply pw_below_drewN | apply below_drew1 | refine below_set ?_ GE466.out | refine below_set ?_ GE550.out | refine below_set ?_ GE561.out | refine below_set ?_ GE566.out | refine below_set ?_ GE585.out) | exact HB.out)) hb); have n9_ := Aside0.mk (hbox); have n10_ := Aside0.mk ((by rw [hg]; exact (below_size (by repeat (first | (with_reducible first | exact HB.out | apply below_alloc | apply pw_below_drewN | apply below_drew1 | refine below_set ?_ GE466.out | refine below_set ?_ GE550.out | refine below_set ?_ GE561.out | refine below_set ?_ GE566.out | refine below_set ?_ GE585.out) | exact HB.out))) : w.heap.size ≤ gb588)); have n11_ := Aside0.mk ((by rw [hg]; exact (below_size (by repeat (first | (with_reducible first | exact HB.out | apply below_alloc | apply pw_below_drewN | apply below_drew1 | refine below_set ?_ GE466.out | refine below_set ?_ GE550.out | refine below_set ?_ GE561.out | refine below_set ?_ GE566.out | refine below_set ?_ GE585.out) | exact HB.out))) : w.heap.size ≤ gb588)); have n12_ := Aside0.mk ((blkn hg BK466.out)); have n13_ := Aside0.mk ((blkm hg BK466.out)); have n14_ := Aside0.mk ((blkn hg BK550.out)); have n15_ := Aside0.mk ((blkm hg BK550.out)); have n16_ := Aside0.mk ((blkn hg BK561.out)); have n17_ := Aside0.mk ((blkm hg BK561.out)); have n18_ := Aside0.mk ((blkn hg BK566.out)); have n19_ := Aside0.mk ((blkm hg BK566.out)); have n20_ := Aside0.mk ((blkn hg BK585.out)); have n21_ := Aside0.mk ((blkm hg BK585.out)); clear HO565; clear HO570; clear HO574; clear BK466; clear BK550; clear BK561; clear BK566; clear BK585; clear HB; have HO565 := n0_; have HO570 := n1_; have HO574 := n2_; have BK466 := n3_; have BK550 := n4_; have BK561 := n5_; have BK566 := n6_; have BK585 := n7_; have HB := n8_; have BK588 := n9_; have GW588 := n10_; have GE588 := n11_; have NB466_588 := n12_; have NB588_466 := n13_; have NB550_588 := n14_; have NB588_550 := n15_; have NB561_588 := n16_; have NB588_561 := n17_; have NB566_588 := n18_; have NB588_566 := n19_; have NB585_588 := n20_; have NB588_585 := n21_; clear n0_ n1_ n2_ n3_ n4_ n5_ n6_ n7_ n8_ n9_ n10_ n11_ n12_ n13_ n14_ n15_ n16_ n17_ n18_ n19_ n20_ n21_; clear hb hbox hg; have hnb201 := NB588_466.out; have hnc201 := NB466_588.out; have hnb202 := NB588_550.out; have hnc202 := NB550_588.out; have hnb203 := NB588_561.out; have hnc203 := NB561_588.out; have hnb204 := NB588_566.out; have hnc204 := NB566_588.out; have hnb205 := NB588_585.out; have hnc205 := NB585_588.out; have hcz206_0 : w200.cell? ⟨gb588, 0, none⟩ = some (.int .i64 0) := (blk_cell BK588.out 0).trans rfl; have hcz206_1 : w200.cell? ⟨gb588, 1, none⟩ = some (.string (⟨#[]⟩ : ByteArray)) := (blk_cell BK588.out 1).trans rfl; have hfz206_0 := blk_frozen BK588.out 0; have hfz206_1 := blk_frozen BK588.out 1))
            have n0_ : Aside0 (Kd.R (Kd.int .u8) 5 ((w200.setCell ⟨gb588, 0, none⟩ (.int .i64 t586)).setCell ⟨gb588, 1, none⟩ (.string t587)) w.heap.size (fun k_ => some k_ ≠ (v569 : Value).ownBlock ∧ some k_ ≠ (.slice Ao188 t572.length co188 : Value).ownBlock) (.slice Ao183 t563.length co183) t563) := ⟨by (with_reducible repeat (first | apply Kd.R_alloc | apply Kd.R_drewN | apply Kd.R_drew)); exact Kd.R_mono (Kd.R_far (p := ⟨gb588, 1, none⟩) (Kd.R_far (p := ⟨gb588, 0, none⟩) (Kd.R_types HO565.out BK588.out (by decide)) (fun _ hk => hk.2) (.int .i64 t586)) (fun _ hk => hk.2) (.string t587)) (fun _ hk => ⟨hk.1.1, hk.1.2⟩)⟩
            have n1_ : Aside0 (Kd.R (Kd.int .u8) 5 ((w200.setCell ⟨gb588, 0, none⟩ (.int .i64 t586)).setCell ⟨gb588, 1, none⟩ (.string t587)) w.heap.size (fun k_ => some k_ ≠ (.slice Ao183 t563.length co183 : Value).ownBlock ∧ some k_ ≠ (.slice Ao188 t572.length co188 : Value).ownBlock) v569 t568) := ⟨by (with_reducible repeat (first | apply Kd.R_alloc | apply Kd.R_drewN | apply Kd.R_drew)); exact Kd.R_mono (Kd.R_far (p := ⟨gb588, 1, none⟩) (Kd.R_far (p := ⟨gb588, 0, none⟩) (Kd.R_types HO570.out BK588.out (by decide)) (fun _ hk => hk.2) (.int .i64 t586)) (fun _ hk => hk.2) (.string t587)) (fun _ hk => ⟨hk.1.1, hk.1.2⟩)⟩
            have n2_ : Aside0 (Kd.R (Kd.int .u8) 5 ((w200.setCell ⟨gb588, 0, none⟩ (.int .i64 t586)).setCell ⟨gb588, 1, none⟩ (.string t587)) w.heap.size (fun k_ => some k_ ≠ (.slice Ao183 t563.length co183 : Value).ownBlock ∧ some k_ ≠ (v569 : Value).ownBlock) (.slice Ao188 t572.length co188) t572) := ⟨by (with_reducible repeat (first | apply Kd.R_alloc | apply Kd.R_drewN | apply Kd.R_drew)); exact Kd.R_mono (Kd.R_far (p := ⟨gb588, 1, none⟩) (Kd.R_far (p := ⟨gb588, 0, none⟩) (Kd.R_types HO574.out BK588.out (by decide)) (fun _ hk => hk.2) (.int .i64 t586)) (fun _ hk => hk.2) (.string t587)) (fun _ hk => ⟨hk.1.1, hk.1.2⟩)⟩
            have n3_ : Aside0 (((w200.setCell ⟨gb588, 0, none⟩ (.int .i64 t586)).setCell ⟨gb588, 1, none⟩ (.string t587)).heap[gb466]? = some (.cells #[.int .i64 t458, .int .i64 t459, .int .i64 t460, .int .i64 t461, .int .i64 t462, .int .i64 t463, .int .i64 t464, .int .i64 t465] 46 (0, 0))) := ⟨by (with_reducible repeat (first | refine blk_drewN ?_ _ | refine blk_drew ?_ | refine blk_alloc ?_ _)); refine blk_far ?_ NB466_588.out _; (with_reducible repeat (first | refine blk_drewN ?_ _ | refine blk_drew ?_ | refine blk_alloc ?_ _)); refine blk_far ?_ NB466_588.out _; (with_reducible repeat (first | refine blk_drewN ?_ _ | refine blk_drew ?_ | refine blk_alloc ?_ _)); exact BK466.out⟩
            have n4_ : Aside0 (((w200.setCell ⟨gb588, 0, none⟩ (.int .i64 t586)).setCell ⟨gb588, 1, none⟩ (.string t587)).heap[gb550]? = some (.cells #[.int .i64 t542, .int .i64 t543, .int .i64 t544, .int .i64 t545, .int .i64 t546, .int .i64 t547, .int .i64 t548] 41 (0, 0))) := ⟨by (with_reducible repeat (first | refine blk_drewN ?_ _ | refine blk_drew ?_ | refine blk_alloc ?_ _)); refine blk_far ?_ NB550_588.out _; (with_reducible repeat (first | refine blk_drewN ?_ _ | refine blk_drew ?_ | refine blk_alloc ?_ _)); refine blk_far ?_ NB550_588.out _; (with_reducible repeat (first | refine blk_drewN ?_ _ | refine blk_drew ?_ | refine blk_alloc ?_ _)); exact BK550.out⟩
            have n5_ : Aside0 (((w200.setCell ⟨gb588, 0, none⟩ (.int .i64 t586)).setCell ⟨gb588, 1, none⟩ (.string t587)).heap[gb561]? = some (.cells #[.int .i64 t553, .int .i64 t554, .int .i64 t555, .int .i64 t556, .int .i64 t557, .int .i64 t558, .int .i64 t559] 41 (0, 0))) := ⟨by (with_reducible repeat (first | refine blk_drewN ?_ _ | refine blk_drew ?_ | refine blk_alloc ?_ _)); refine blk_far ?_ NB561_588.out _; (with_reducible repeat (first | refine blk_drewN ?_ _ | refine blk_drew ?_ | refine blk_alloc ?_ _)); refine blk_far ?_ NB561_588.out _; (with_reducible repeat (first | refine blk_drewN ?_ _ | refine blk_drew ?_ | refine blk_alloc ?_ _)); exact BK561.out⟩
            have n6_ : Aside0 (((w200.setCell ⟨gb588, 0, none⟩ (.int .i64 t586)).setCell ⟨gb588, 1, none⟩ (.string t587)).heap[gb566]? = some (.cells #[.int .i64 t562, .slice Ao183 t563.length co183] 34 (0, 0))) := ⟨by (with_reducible repeat (first | refine blk_drewN ?_ _ | refine blk_drew ?_ | refine blk_alloc ?_ _)); refine blk_far ?_ NB566_588.out _; (with_reducible repeat (first | refine blk_drewN ?_ _ | refine blk_drew ?_ | refine blk_alloc ?_ _)); refine blk_far ?_ NB566_588.out _; (with_reducible repeat (first | refine blk_drewN ?_ _ | refine blk_drew ?_ | refine blk_alloc ?_ _)); exact BK566.out⟩
            have n7_ : Aside0 (((w200.setCell ⟨gb588, 0, none⟩ (.int .i64 t586)).setCell ⟨gb588, 1, none⟩ (.string t587)).heap[gb585]? = some (.cells #[.int .i64 t577, .int .i64 t578, .int .i64 t579, .int .i64 t580, .int .i64 t581, .int .i64 t582, .int .i64 t583, .int .i64 t584] 46 (0, 0))) := ⟨by (with_reducible repeat (first | refine blk_drewN ?_ _ | refine blk_drew ?_ | refine blk_alloc ?_ _)); refine blk_far ?_ NB585_588.out _; (with_reducible repeat (first | refine blk_drewN ?_ _ | refine blk_drew ?_ | refine blk_alloc ?_ _)); refine blk_far ?_ NB585_588.out _; (with_reducible repeat (first | refine blk_drewN ?_ _ | refine blk_drew ?_ | refine blk_alloc ?_ _)); exact BK585.out⟩
            have n8_ : Aside0 (((w200.setCell ⟨gb588, 0, none⟩ (.int .i64 t586)).setCell ⟨gb588, 1, none⟩ (.string t587)).heap[gb588]? = some (.cells #[.int .i64 t586, .string t587] 39 (0, 0))) := ⟨by (with_reducible repeat (first | refine blk_drewN ?_ _ | refine blk_drew ?_ | refine blk_alloc ?_ _)); refine blk_put (cs := #[.int .i64 t586, .string (⟨#[]⟩ : ByteArray)]) ?_ 1 _ rfl; (with_reducible repeat (first | refine blk_drewN ?_ _ | refine blk_drew ?_ | refine blk_alloc ?_ _)); refine blk_put (cs := #[.int .i64 0, .string (⟨#[]⟩ : ByteArray)]) ?_ 0 _ rfl; (with_reducible repeat (first | refine blk_drewN ?_ _ | refine blk_drew ?_ | refine blk_alloc ?_ _)); exact BK588.out⟩
            have n9_ : Aside0 (Below w.heap.size w ((w200.setCell ⟨gb588, 0, none⟩ (.int .i64 t586)).setCell ⟨gb588, 1, none⟩ (.string t587))) := ⟨by repeat (first | (with_reducible first | exact HB.out | apply below_alloc | apply pw_below_drewN | apply below_drew1 | refine below_set ?_ GE466.out | refine below_set ?_ GE550.out | refine below_set ?_ GE561.out | refine below_set ?_ GE566.out | refine below_set ?_ GE585.out | refine below_set ?_ GE588.out) | exact HB.out)⟩
            (try clear HO565)
            (try clear HO570)
            (try clear HO574)
            (try clear BK466)
            (try clear BK550)
            (try clear BK561)
            (try clear BK566)
            (try clear BK585)
            (try clear BK588)
            (try clear HB)
            generalize ((w200.setCell ⟨gb588, 0, none⟩ (.int .i64 t586)).setCell ⟨gb588, 1, none⟩ (.string t587)) = w207 at n0_ n1_ n2_ n3_ n4_ n5_ n6_ n7_ n8_ n9_ ⊢
            have HO565 := n0_
            have HO570 := n1_
            have HO574 := n2_
            have BK466 := n3_
            have BK550 := n4_
            have BK561 := n5_
            have BK566 := n6_
            have BK585 := n7_
            have BK588 := n8_
            have HB := n9_
            clear n0_ n1_ n2_ n3_ n4_ n5_ n6_ n7_ n8_ n9_
            have n0_ := Aside0.mk (Kd.R_drew HO565.out)
            have n1_ := Aside0.mk (Kd.R_drew HO570.out)
            have n2_ := Aside0.mk (Kd.R_drew HO574.out)
            have n3_ := Aside0.mk (blk_drew BK466.out)
            have n4_ := Aside0.mk (blk_drew BK550.out)
            have n5_ := Aside0.mk (blk_drew BK561.out)
            have n6_ := Aside0.mk (blk_drew BK566.out)
            have n7_ := Aside0.mk (blk_drew BK585.out)
            have n8_ := Aside0.mk (blk_drew BK588.out)
            have n9_ := Aside0.mk (below_drew1 HB.out)
            clear HO565
            clear HO570
            clear HO574
            clear BK466
            clear BK550
            clear BK561
            clear BK566
            clear BK585
            clear BK588
            clear HB
            have HO565 := n0_
            have HO570 := n1_
            have HO574 := n2_
            have BK466 := n3_
            have BK550 := n4_
            have BK561 := n5_
            have BK566 := n6_
            have BK585 := n7_
            have BK588 := n8_
            have HB := n9_
            clear n0_ n1_ n2_ n3_ n4_ n5_ n6_ n7_ n8_ n9_
            refine start_ (n := 35) (S := fun w' => w'.cell? ⟨gb585, 0, none⟩ = some (.int .i64 t577) ∧ w'.cell? ⟨gb585, 1, none⟩ = some (.int .i64 t578) ∧ w'.cell? ⟨gb585, 2, none⟩ = some (.int .i64 t579) ∧ w'.cell? ⟨gb585, 3, none⟩ = some (.int .i64 t580) ∧ w'.cell? ⟨gb585, 4, none⟩ = some (.int .i64 t581) ∧ w'.cell? ⟨gb585, 5, none⟩ = some (.int .i64 t582) ∧ w'.cell? ⟨gb585, 6, none⟩ = some (.int .i64 t583) ∧ w'.cell? ⟨gb585, 7, none⟩ = some (.int .i64 t584) ∧ w'.cell? ⟨gb588, 0, none⟩ = some (.int .i64 t586) ∧ w'.cell? ⟨gb588, 1, none⟩ = some (.string t587)) (ds := []) #[false, false, false, false, false, false, false, false, false, false, false, false, false, false, false, false, false, false, false, false, false, false, false, false, false, false, false, false, false, false, false, false, false, false, false] (by kernel_rfl) rfl rfl ⟨(blk_cell BK585.out 0).trans rfl, (blk_cell BK585.out 1).trans rfl, (blk_cell BK585.out 2).trans rfl, (blk_cell BK585.out 3).trans rfl, (blk_cell BK585.out 4).trans rfl, (blk_cell BK585.out 5).trans rfl, (blk_cell BK585.out 6).trans rfl, (blk_cell BK585.out 7).trans rfl, (blk_cell BK588.out 0).trans rfl, (blk_cell BK588.out 1).trans rfl⟩ (fun hHeld => ?_); refine with_tabW laws_FnWays.tab19 laws_FnWays.bits19 (fun HT_ HW_ => ?_)
            generalize w207.drew = w208 at HO565 HO570 HO574 BK466 BK550 BK561 BK566 BK585 BK588 HB hHeld ⊢
            refine pure_ (i := 0) (N := some 91) (v := ?_) (a' := ?_) #[true, false, false, false, false, false, false, false, false, false, false, false, false, false, false, false, false, false, false, false, false, false, false, false, false, false, false, false, false, false, false, false, false, false, false] rfl rfl (any_of HT_.out (by kernel_rfl)) (fun _ _ _ h => h) (Or.inl ⟨by rfl, ?_⟩) ?_ ?_
            rotate_left
            ·intro w'
             go_simp
             with_reducible rfl
            rotate_left
            ·simp only [Act.put, List.setIfInBounds_toArray, List.set_cons_zero, List.set_cons_succ, i64_w, i32_w]
             rfl
            refine take_ (i := 1) (N := some 92) (v := ?_) (a' := ?_) #[true, true, false, false, false, false, false, false, false, false, false, false, false, false, false, false, false, false, false, false, false, false, false, false, false, false, false, false, false, false, false, false, false, false, false] rfl rfl (take_ofW HT_.out HW_.out (by kernel_rfl)) (fun _ _ _ h => h) (Or.inl ⟨by rfl, ?_⟩) hHeld ?_ ?_
            rotate_left
            ·rintro w' ⟨s0, s1, s2, s3, s4, s5, s6, s7, s8, s9⟩
             go_simp
             with_reducible rfl
            rotate_left
            ·simp only [Act.put, List.setIfInBounds_toArray, List.set_cons_zero, List.set_cons_succ, i64_w, i32_w]
             rfl
            refine one_ (i := 2) (N := some 93) #[true, true, true, false, false, false, false, false, false, false, false, false, false, false, false, false, false, false, false, false, false, false, false, false, false, false, false, false, false, false, false, false, false, false, false] rfl rfl (one_of HT_.out (by kernel_rfl)) (by decide) (fun K hK => ?_)
            refine goes_ Tryd.func37 (by kernel_rfl) rfl #[.agg #[.int .i64 t578, .int .i64 t579, .int .i64 t580, .int .i64 t581, .int .i64 t582, .int .i64 t583, .int .i64 t584]] (by rfl) rfl rfl (by (try simp only [List.map_toArray, List.map_cons, List.map_nil]); first | done | rfl | (simp only [List.length_drop, List.length_take]; rfl)) ?_
            with_reducible refine (impl_WayFault.calls k t578 t579 t580 t581 t582 t583 t584 t589 _ A150.out).mono ?_
            rintro e w209 ⟨rfl, hb⟩
            refine ⟨_, rfl, ?_⟩
            have n0_ := Aside0.mk (Kd.R_below (by (with_reducible repeat (first | apply Kd.R_alloc | apply Kd.R_drewN | apply Kd.R_drew)); exact HO565.out) hb)
            have n1_ := Aside0.mk (Kd.R_below (by (with_reducible repeat (first | apply Kd.R_alloc | apply Kd.R_drewN | apply Kd.R_drew)); exact HO570.out) hb)
            have n2_ := Aside0.mk (Kd.R_below (by (with_reducible repeat (first | apply Kd.R_alloc | apply Kd.R_drewN | apply Kd.R_drew)); exact HO574.out) hb)
            have n3_ := Aside0.mk (blkb hb BK466.out)
            have n4_ := Aside0.mk (blkb hb BK550.out)
            have n5_ := Aside0.mk (blkb hb BK561.out)
            have n6_ := Aside0.mk (blkb hb BK566.out)
            have n7_ := Aside0.mk (blkb hb BK585.out)
            have n8_ := Aside0.mk (blkb hb BK588.out)
            have n9_ := Aside0.mk (below_step (by repeat (first | (with_reducible first | exact HB.out | apply below_alloc | apply pw_below_drewN | apply below_drew1 | refine below_set ?_ GE466.out | refine below_set ?_ GE550.out | refine below_set ?_ GE561.out | refine below_set ?_ GE566.out | refine below_set ?_ GE585.out | refine below_set ?_ GE588.out) | exact HB.out)) hb)
            clear HO565
            clear HO570
            clear HO574
            clear BK466
            clear BK550
            clear BK561
            clear BK566
            clear BK585
            clear BK588
            clear HB
            have HO565 := n0_
            have HO570 := n1_
            have HO574 := n2_
            have BK466 := n3_
            have BK550 := n4_
            have BK561 := n5_
            have BK566 := n6_
            have BK585 := n7_
            have BK588 := n8_
            have HB := n9_
            clear n0_ n1_ n2_ n3_ n4_ n5_ n6_ n7_ n8_ n9_
            (try clear hb)
            (try clear hb2)
            (try clear hk)
            (try clear hi)
            refine hK.out _ _ ⟨(blk_cell BK585.out 0).trans rfl, (blk_cell BK585.out 1).trans rfl, (blk_cell BK585.out 2).trans rfl, (blk_cell BK585.out 3).trans rfl, (blk_cell BK585.out 4).trans rfl, (blk_cell BK585.out 5).trans rfl, (blk_cell BK585.out 6).trans rfl, (blk_cell BK585.out 7).trans rfl, (blk_cell BK588.out 0).trans rfl, (blk_cell BK588.out 1).trans rfl⟩ (fun hHeld => ?_)
            clear hK K
            refine norm_ (a' := ?_) ?_ ?_
            rotate_left
            ·show Act.put _ (some 93) _ = _
             simp only [Act.put, List.setIfInBounds_toArray, List.set_cons_zero, List.set_cons_succ, i64_w, i32_w]
             rfl
            refine pure_ (i := 3) (N := some 94) (v := ?_) (a' := ?_) #[true, true, true, true, false, false, false, false, false, false, false, false, false, false, false, false, false, false, false, false, false, false, false, false, false, false, false, false, false, false, false, false, false, false, false] rfl rfl (any_of HT_.out (by kernel_rfl)) (fun _ _ _ h => h) (Or.inl ⟨by rfl, ?_⟩) ?_ ?_
            rotate_left
            ·intro w'
             go_simp
             with_reducible rfl
            rotate_left
            ·simp only [Act.put, List.setIfInBounds_toArray, List.set_cons_zero, List.set_cons_succ, i64_w, i32_w]
             rfl
            refine pure_ (i := 4) (N := some 95) (v := ?_) (a' := ?_) #[true, true, true, true, true, false, false, false, false, false, false, false, false, false, false, false, false, false, false, false, false, false, false, false, false, false, false, false, false, false, false, false, false, false, false] rfl rfl (any_of HT_.out (by kernel_rfl)) (fun _ _ _ h => h) (Or.inl ⟨by rfl, ?_⟩) ?_ ?_
            rotate_left
            ·intro w'
             go_simp
             with_reducible rfl
            rotate_left
            ·simp only [Act.put, List.setIfInBounds_toArray, List.set_cons_zero, List.set_cons_succ, i64_w, i32_w]
             rfl
            refine pure_ (i := 5) (N := some 96) (v := ?_) (a' := ?_) #[true, true, true, true, true, true, false, false, false, false, false, false, false, false, false, false, false, false, false, false, false, false, false, false, false, false, false, false, false, false, false, false, false, false, false] rfl rfl (any_of HT_.out (by kernel_rfl)) (fun _ _ _ h => h) (Or.inl ⟨by rfl, ?_⟩) ?_ ?_
            rotate_left
            ·intro w'
             go_simp
             with_reducible rfl
            rotate_left
            ·simp only [Act.put, List.setIfInBounds_toArray, List.set_cons_zero, List.set_cons_succ, i64_w, i32_w]
             rfl
            refine pure_ (i := 6) (N := some 97) (v := ?_) (a' := ?_) #[true, true, true, true, true, true, true, false, false, false, false, false, false, false, false, false, false, false, false, false, false, false, false, false, false, false, false, false, false, false, false, false, false, false, false] rfl rfl (any_of HT_.out (by kernel_rfl)) (fun _ _ _ h => h) (Or.inl ⟨by rfl, ?_⟩) ?_ ?_
            rotate_left
            ·intro w'
             go_simp
             with_reducible rfl
            rotate_left
            ·simp only [Act.put, List.setIfInBounds_toArray, List.set_cons_zero, List.set_cons_succ, i64_w, i32_w]
             rfl
            refine pure_ (i := 8) (N := some 99) (v := ?_) (a' := ?_) #[true, true, true, true, true, true, true, false, true, false, false, false, false, false, false, false, false, false, false, false, false, false, false, false, false, false, false, false, false, false, false, false, false, false, false] rfl rfl (any_of HT_.out (by kernel_rfl)) (fun _ _ _ h => h) (Or.inl ⟨by rfl, ?_⟩) ?_ ?_
            rotate_left
            ·intro w'
             go_simp
             with_reducible rfl
            rotate_left
            ·simp only [Act.put, List.setIfInBounds_toArray, List.set_cons_zero, List.set_cons_succ, i64_w, i32_w]
             rfl
            refine take_ (i := 7) (N := some 98) (v := ?_) (a' := ?_) #[true, true, true, true, true, true, true, true, true, false, false, false, false, false, false, false, false, false, false, false, false, false, false, false, false, false, false, false, false, false, false, false, false, false, false] rfl rfl (take_ofW HT_.out HW_.out (by kernel_rfl)) (fun _ _ _ h => h) (Or.inl ⟨by rfl, ?_⟩) hHeld ?_ ?_
            rotate_left
            ·rintro w' ⟨s0, s1, s2, s3, s4, s5, s6, s7, s8, s9⟩
             go_simp
             with_reducible rfl
            rotate_left
            ·simp only [Act.put, List.setIfInBounds_toArray, List.set_cons_zero, List.set_cons_succ, i64_w, i32_w]
             rfl
            refine pure_ (i := 9) (N := some 100) (v := ?_) (a' := ?_) #[true, true, true, true, true, true, true, true, true, true, false, false, false, false, false, false, false, false, false, false, false, false, false, false, false, false, false, false, false, false, false, false, false, false, false] rfl rfl (any_of HT_.out (by kernel_rfl)) (fun _ _ _ h => h) (Or.inl ⟨by rfl, ?_⟩) ?_ ?_
            rotate_left
            ·intro w'
             go_simp
             with_reducible rfl
            rotate_left
            ·simp only [Act.put, List.setIfInBounds_toArray, List.set_cons_zero, List.set_cons_succ, i64_w, i32_w]
             rfl
            refine pure_ (i := 10) (N := some 101) (v := ?_) (a' := ?_) #[true, true, true, true, true, true, true, true, true, true, true, false, false, false, false, false, false, false, false, false, false, false, false, false, false, false, false, false, false, false, false, false, false, false, false] rfl rfl (any_of HT_.out (by kernel_rfl)) (fun _ _ _ h => h) (Or.inl ⟨by rfl, ?_⟩) ?_ ?_
            rotate_left
            ·intro w'
             go_simp
             with_reducible rfl
            rotate_left
            ·simp only [Act.put, List.setIfInBounds_toArray, List.set_cons_zero, List.set_cons_succ, i64_w, i32_w]
             rfl
            refine pure_ (i := 11) (N := some 102) (v := ?_) (a' := ?_) #[true, true, true, true, true, true, true, true, true, true, true, true, false, false, false, false, false, false, false, false, false, false, false, false, false, false, false, false, false, false, false, false, false, false, false] rfl rfl (any_of HT_.out (by kernel_rfl)) (fun _ _ _ h => h) (Or.inl ⟨by rfl, ?_⟩) ?_ ?_
            rotate_left
            ·intro w'
             go_simp
             with_reducible rfl
            rotate_left
            ·simp only [Act.put, List.setIfInBounds_toArray, List.set_cons_zero, List.set_cons_succ, i64_w, i32_w]
             rfl
            refine pure_ (i := 12) (N := some 103) (v := ?_) (a' := ?_) #[true, true, true, true, true, true, true, true, true, true, true, true, true, false, false, false, false, false, false, false, false, false, false, false, false, false, false, false, false, false, false, false, false, false, false] rfl rfl (any_of HT_.out (by kernel_rfl)) (fun _ _ _ h => h) (Or.inl ⟨by rfl, ?_⟩) ?_ ?_
            rotate_left
            ·intro w'
             go_simp
             with_reducible rfl
            rotate_left
            ·simp only [Act.put, List.setIfInBounds_toArray, List.set_cons_zero, List.set_cons_succ, i64_w, i32_w]
             rfl
            refine take_ (i := 13) (N := some 104) (v := ?_) (a' := ?_) #[true, true, true, true, true, true, true, true, true, true, true, true, true, true, false, false, false, false, false, false, false, false, false, false, false, false, false, false, false, false, false, false, false, false, false] rfl rfl (take_ofW HT_.out HW_.out (by kernel_rfl)) (fun _ _ _ h => h) (Or.inl ⟨by rfl, ?_⟩) hHeld ?_ ?_
            rotate_left
            ·rintro w' ⟨s0, s1, s2, s3, s4, s5, s6, s7, s8, s9⟩
             go_simp
             with_reducible rfl
            rotate_left
            ·simp only [Act.put, List.setIfInBounds_toArray, List.set_cons_zero, List.set_cons_succ, i64_w, i32_w]
             rfl
            refine pure_ (i := 14) (N := some 105) (v := ?_) (a' := ?_) #[true, true, true, true, true, true, true, true, true, true, true, true, true, true, true, false, false, false, false, false, false, false, false, false, false, false, false, false, false, false, false, false, false, false, false] rfl rfl (any_of HT_.out (by kernel_rfl)) (fun _ _ _ h => h) (Or.inl ⟨by rfl, ?_⟩) ?_ ?_
            rotate_left
            ·intro w'
             go_simp
             with_reducible rfl
            rotate_left
            ·simp only [Act.put, List.setIfInBounds_toArray, List.set_cons_zero, List.set_cons_succ, i64_w, i32_w]
             rfl
            refine pure_ (i := 15) (N := some 106) (v := ?_) (a' := ?_) #[true, true, true, true, true, true, true, true, true, true, true, true, true, true, true, true, false, false, false, false, false, false, false, false, false, false, false, false, false, false, false, false, false, false, false] rfl rfl (any_of HT_.out (by kernel_rfl)) (fun _ _ _ h => h) (Or.inl ⟨by rfl, ?_⟩) ?_ ?_
            rotate_left
            ·intro w'
             go_simp
             with_reducible rfl
            rotate_left
            ·simp only [Act.put, List.setIfInBounds_toArray, List.set_cons_zero, List.set_cons_succ, i64_w, i32_w]
             rfl
            refine pure_ (i := 16) (N := some 107) (v := ?_) (a' := ?_) #[true, true, true, true, true, true, true, true, true, true, true, true, true, true, true, true, true, false, false, false, false, false, false, false, false, false, false, false, false, false, false, false, false, false, false] rfl rfl (any_of HT_.out (by kernel_rfl)) (fun _ _ _ h => h) (Or.inl ⟨by rfl, ?_⟩) ?_ ?_
            rotate_left
            ·intro w'
             go_simp
             with_reducible rfl
            rotate_left
            ·simp only [Act.put, List.setIfInBounds_toArray, List.set_cons_zero, List.set_cons_succ, i64_w, i32_w]
             rfl
            refine pure_ (i := 17) (N := some 108) (v := ?_) (a' := ?_) #[true, true, true, true, true, true, true, true, true, true, true, true, true, true, true, true, true, true, false, false, false, false, false, false, false, false, false, false, false, false, false, false, false, false, false] rfl rfl (any_of HT_.out (by kernel_rfl)) (fun _ _ _ h => h) (Or.inl ⟨by rfl, ?_⟩) ?_ ?_
            rotate_left
            ·intro w'
             go_simp
             with_reducible rfl
            rotate_left
            ·simp only [Act.put, List.setIfInBounds_toArray, List.set_cons_zero, List.set_cons_succ, i64_w, i32_w]
             rfl
            refine pure_ (i := 21) (N := some 112) (v := ?_) (a' := ?_) #[true, true, true, true, true, true, true, true, true, true, true, true, true, true, true, true, true, true, false, false, false, true, false, false, false, false, false, false, false, false, false, false, false, false, false] rfl rfl (any_of HT_.out (by kernel_rfl)) (fun _ _ _ h => h) (Or.inl ⟨by rfl, ?_⟩) ?_ ?_
            rotate_left
            ·intro w'
             go_simp
             with_reducible rfl
            rotate_left
            ·simp only [Act.put, List.setIfInBounds_toArray, List.set_cons_zero, List.set_cons_succ, i64_w, i32_w]
             rfl
            refine take_ (i := 18) (N := some 109) (v := ?_) (a' := ?_) #[true, true, true, true, true, true, true, true, true, true, true, true, true, true, true, true, true, true, true, false, false, true, false, false, false, false, false, false, false, false, false, false, false, false, false] rfl rfl (take_ofW HT_.out HW_.out (by kernel_rfl)) (fun _ _ _ h => h) (Or.inl ⟨by rfl, ?_⟩) hHeld ?_ ?_
            rotate_left
            ·rintro w' ⟨s0, s1, s2, s3, s4, s5, s6, s7, s8, s9⟩
             go_simp
             with_reducible rfl
            rotate_left
            ·simp only [Act.put, List.setIfInBounds_toArray, List.set_cons_zero, List.set_cons_succ, i64_w, i32_w]
             rfl
            refine take_ (i := 22) (N := some 113) (v := ?_) (a' := ?_) #[true, true, true, true, true, true, true, true, true, true, true, true, true, true, true, true, true, true, true, false, false, true, true, false, false, false, false, false, false, false, false, false, false, false, false] rfl rfl (take_ofW HT_.out HW_.out (by kernel_rfl)) (fun _ _ _ h => h) (Or.inl ⟨by rfl, ?_⟩) hHeld ?_ ?_
            rotate_left
            ·rintro w' ⟨s0, s1, s2, s3, s4, s5, s6, s7, s8, s9⟩
             go_simp
             with_reducible rfl
            rotate_left
            ·simp only [Act.put, List.setIfInBounds_toArray, List.set_cons_zero, List.set_cons_succ, i64_w, i32_w]
             rfl
            refine one_ (i := 19) (N := some 110) #[true, true, true, true, true, true, true, true, true, true, true, true, true, true, true, true, true, true, true, true, false, true, true, false, false, false, false, false, false, false, false, false, false, false, false] rfl rfl (one_of HT_.out (by kernel_rfl)) (by decide) (fun K hK => ?_)
            refine goes_ Tryd.func24 (by kernel_rfl) rfl #[.string t587] (by rfl) rfl rfl (by (try simp only [List.map_toArray, List.map_cons, List.map_nil]); first | done | rfl | (simp only [List.length_drop, List.length_take]; rfl)) ?_
            refine (impl_ParseWay.calls k t587 t590 t591 t592 t593 t594 t595 t596 t597 _ (Go.Proofs.YtpoafgokngpglaaDoorPw.TabP_below hG (by repeat (first | (with_reducible first | exact HB.out | apply below_alloc | apply pw_below_drewN | apply below_drew1 | refine below_set ?_ GE466.out | refine below_set ?_ GE550.out | refine below_set ?_ GE561.out | refine below_set ?_ GE566.out | refine below_set ?_ GE585.out | refine below_set ?_ GE588.out) | exact HB.out))) A154.out).mono ?_
            rintro e w210 ⟨rfl, hb⟩
            refine ⟨_, rfl, ?_⟩
            have n0_ := Aside0.mk (Kd.R_below (by (with_reducible repeat (first | apply Kd.R_alloc | apply Kd.R_drewN | apply Kd.R_drew)); exact HO565.out) hb)
            have n1_ := Aside0.mk (Kd.R_below (by (with_reducible repeat (first | apply Kd.R_alloc | apply Kd.R_drewN | apply Kd.R_drew)); exact HO570.out) hb)
            have n2_ := Aside0.mk (Kd.R_below (by (with_reducible repeat (first | apply Kd.R_alloc | apply Kd.R_drewN | apply Kd.R_drew)); exact HO574.out) hb)
            have n3_ := Aside0.mk (blkb hb BK466.out)
            have n4_ := Aside0.mk (blkb hb BK550.out)
            have n5_ := Aside0.mk (blkb hb BK561.out)
            have n6_ := Aside0.mk (blkb hb BK566.out)
            have n7_ := Aside0.mk (blkb hb BK585.out)
            have n8_ := Aside0.mk (blkb hb BK588.out)
            have n9_ := Aside0.mk (below_step (by repeat (first | (with_reducible first | exact HB.out | apply below_alloc | apply pw_below_drewN | apply below_drew1 | refine below_set ?_ GE466.out | refine below_set ?_ GE550.out | refine below_set ?_ GE561.out | refine below_set ?_ GE566.out | refine below_set ?_ GE585.out | refine below_set ?_ GE588.out) | exact HB.out)) hb)
            clear HO565
            clear HO570
            clear HO574
            clear BK466
            clear BK550
            clear BK561
            clear BK566
            clear BK585
            clear BK588
            clear HB
            have HO565 := n0_
            have HO570 := n1_
            have HO574 := n2_
            have BK466 := n3_
            have BK550 := n4_
            have BK561 := n5_
            have BK566 := n6_
            have BK585 := n7_
            have BK588 := n8_
            have HB := n9_
            clear n0_ n1_ n2_ n3_ n4_ n5_ n6_ n7_ n8_ n9_
            (try clear hb)
            (try clear hb2)
            (try clear hk)
            (try clear hi)
            refine hK.out _ _ ⟨(blk_cell BK585.out 0).trans rfl, (blk_cell BK585.out 1).trans rfl, (blk_cell BK585.out 2).trans rfl, (blk_cell BK585.out 3).trans rfl, (blk_cell BK585.out 4).trans rfl, (blk_cell BK585.out 5).trans rfl, (blk_cell BK585.out 6).trans rfl, (blk_cell BK585.out 7).trans rfl, (blk_cell BK588.out 0).trans rfl, (blk_cell BK588.out 1).trans rfl⟩ (fun hHeld => ?_)
            clear hK K
            refine norm_ (a' := ?_) ?_ ?_
            rotate_left
            ·show Act.put _ (some 110) _ = _
             simp only [Act.put, List.setIfInBounds_toArray, List.set_cons_zero, List.set_cons_succ, i64_w, i32_w]
             rfl
            refine pure_ (i := 20) (N := some 111) (v := ?_) (a' := ?_) #[true, true, true, true, true, true, true, true, true, true, true, true, true, true, true, true, true, true, true, true, true, true, true, false, false, false, false, false, false, false, false, false, false, false, false] rfl rfl (any_of HT_.out (by kernel_rfl)) (fun _ _ _ h => h) (Or.inl ⟨by rfl, ?_⟩) ?_ ?_
            rotate_left
            ·intro w'
             go_simp
             with_reducible rfl
            rotate_left
            ·simp only [Act.put, List.setIfInBounds_toArray, List.set_cons_zero, List.set_cons_succ, i64_w, i32_w]
             rfl
            refine pure_ (i := 23) (N := some 114) (v := ?_) (a' := ?_) #[true, true, true, true, true, true, true, true, true, true, true, true, true, true, true, true, true, true, true, true, true, true, true, true, false, false, false, false, false, false, false, false, false, false, false] rfl rfl (any_of HT_.out (by kernel_rfl)) (fun _ _ _ h => h) (Or.inl ⟨by rfl, ?_⟩) ?_ ?_
            rotate_left
            ·intro w'
             go_simp
             with_reducible rfl
            rotate_left
            ·simp only [Act.put, List.setIfInBounds_toArray, List.set_cons_zero, List.set_cons_succ, i64_w, i32_w]
             rfl
            refine pure_ (i := 24) (N := some 115) (v := ?_) (a' := ?_) #[true, true, true, true, true, true, true, true, true, true, true, true, true, true, true, true, true, true, true, true, true, true, true, true, true, false, false, false, false, false, false, false, false, false, false] rfl rfl (any_of HT_.out (by kernel_rfl)) (fun _ _ _ h => h) (Or.inl ⟨by rfl, ?_⟩) ?_ ?_
            rotate_left
            ·intro w'
             go_simp
             with_reducible rfl
            rotate_left
            ·simp only [Act.put, List.setIfInBounds_toArray, List.set_cons_zero, List.set_cons_succ, i64_w, i32_w]
             rfl
            refine pure_ (i := 25) (N := some 116) (v := ?_) (a' := ?_) #[true, true, true, true, true, true, true, true, true, true, true, true, true, true, true, true, true, true, true, true, true, true, true, true, true, true, false, false, false, false, false, false, false, false, false] rfl rfl (any_of HT_.out (by kernel_rfl)) (fun _ _ _ h => h) (Or.inl ⟨by rfl, ?_⟩) ?_ ?_
            rotate_left
            ·intro w'
             go_simp
             with_reducible rfl
            rotate_left
            ·simp only [Act.put, List.setIfInBounds_toArray, List.set_cons_zero, List.set_cons_succ, i64_w, i32_w]
             rfl
            refine pure_ (i := 26) (N := some 117) (v := ?_) (a' := ?_) #[true, true, true, true, true, true, true, true, true, true, true, true, true, true, true, true, true, true, true, true, true, true, true, true, true, true, true, false, false, false, false, false, false, false, false] rfl rfl (any_of HT_.out (by kernel_rfl)) (fun _ _ _ h => h) (Or.inl ⟨by rfl, ?_⟩) ?_ ?_
            rotate_left
            ·intro w'
             go_simp
             with_reducible rfl
            rotate_left
            ·simp only [Act.put, List.setIfInBounds_toArray, List.set_cons_zero, List.set_cons_succ, i64_w, i32_w]
             rfl
            refine pure_ (i := 29) (N := some 120) (v := ?_) (a' := ?_) #[true, true, true, true, true, true, true, true, true, true, true, true, true, true, true, true, true, true, true, true, true, true, true, true, true, true, true, false, false, true, false, false, false, false, false] rfl rfl (any_of HT_.out (by kernel_rfl)) (fun _ _ _ h => h) (Or.inl ⟨by rfl, ?_⟩) ?_ ?_
            rotate_left
            ·intro w'
             go_simp
             with_reducible rfl
            rotate_left
            ·simp only [Act.put, List.setIfInBounds_toArray, List.set_cons_zero, List.set_cons_succ, i64_w, i32_w]
             rfl
            refine pure_ (i := 30) (N := some 121) (v := ?_) (a' := ?_) #[true, true, true, true, true, true, true, true, true, true, true, true, true, true, true, true, true, true, true, true, true, true, true, true, true, true, true, false, false, true, true, false, false, false, false] rfl rfl (any_of HT_.out (by kernel_rfl)) (fun _ _ _ h => h) (Or.inl ⟨by rfl, ?_⟩) ?_ ?_
            rotate_left
            ·intro w'
             go_simp
             with_reducible rfl
            rotate_left
            ·simp only [Act.put, List.setIfInBounds_toArray, List.set_cons_zero, List.set_cons_succ, i64_w, i32_w]
             rfl
            refine pure_ (i := 31) (N := some 122) (v := ?_) (a' := ?_) #[true, true, true, true, true, true, true, true, true, true, true, true, true, true, true, true, true, true, true, true, true, true, true, true, true, true, true, false, false, true, true, true, false, false, false] rfl rfl (any_of HT_.out (by kernel_rfl)) (fun _ _ _ h => h) (Or.inl ⟨by rfl, ?_⟩) ?_ ?_
            rotate_left
            ·intro w'
             go_simp
             with_reducible rfl
            rotate_left
            ·simp only [Act.put, List.setIfInBounds_toArray, List.set_cons_zero, List.set_cons_succ, i64_w, i32_w]
             rfl
            refine take_ (i := 27) (N := some 118) (v := ?_) (a' := ?_) #[true, true, true, true, true, true, true, true, true, true, true, true, true, true, true, true, true, true, true, true, true, true, true, true, true, true, true, true, false, true, true, true, false, false, false] rfl rfl (take_ofW HT_.out HW_.out (by kernel_rfl)) (fun _ _ _ h => h) (Or.inl ⟨by rfl, ?_⟩) hHeld ?_ ?_
            rotate_left
            ·rintro w' ⟨s0, s1, s2, s3, s4, s5, s6, s7, s8, s9⟩
             go_simp
             with_reducible rfl
            rotate_left
            ·simp only [Act.put, List.setIfInBounds_toArray, List.set_cons_zero, List.set_cons_succ, i64_w, i32_w]
             rfl
            refine one_ (i := 28) (N := some 119) #[true, true, true, true, true, true, true, true, true, true, true, true, true, true, true, true, true, true, true, true, true, true, true, true, true, true, true, true, true, true, true, true, false, false, false] rfl rfl (one_of HT_.out (by kernel_rfl)) (by decide) (fun K hK => ?_)
            refine goes_ Tryd.func28 (by kernel_rfl) rfl #[.agg #[.int .i64 t578, .int .i64 t579, .int .i64 t580, .int .i64 t581, .int .i64 t582, .int .i64 t583, .int .i64 t584], .int .i64 2] (by rfl) rfl rfl (by (try simp only [List.map_toArray, List.map_cons, List.map_nil]); first | done | rfl | (simp only [List.length_drop, List.length_take]; rfl)) ?_
            with_reducible refine (impl_HasFlag.calls k t578 t579 t580 t581 t582 t583 t584 2 t598 _ A156.out).mono ?_
            rintro e w211 ⟨rfl, hb⟩
            refine ⟨_, rfl, ?_⟩
            have n0_ := Aside0.mk (Kd.R_below (by (with_reducible repeat (first | apply Kd.R_alloc | apply Kd.R_drewN | apply Kd.R_drew)); exact HO565.out) hb)
            have n1_ := Aside0.mk (Kd.R_below (by (with_reducible repeat (first | apply Kd.R_alloc | apply Kd.R_drewN | apply Kd.R_drew)); exact HO570.out) hb)
            have n2_ := Aside0.mk (Kd.R_below (by (with_reducible repeat (first | apply Kd.R_alloc | apply Kd.R_drewN | apply Kd.R_drew)); exact HO574.out) hb)
            have n3_ := Aside0.mk (blkb hb BK466.out)
            have n4_ := Aside0.mk (blkb hb BK550.out)
            have n5_ := Aside0.mk (blkb hb BK561.out)
            have n6_ := Aside0.mk (blkb hb BK566.out)
            have n7_ := Aside0.mk (blkb hb BK585.out)
            have n8_ := Aside0.mk (blkb hb BK588.out)
            have n9_ := Aside0.mk (below_step (by repeat (first | (with_reducible first | exact HB.out | apply below_alloc | apply pw_below_drewN | apply below_drew1 | refine below_set ?_ GE466.out | refine below_set ?_ GE550.out | refine below_set ?_ GE561.out | refine below_set ?_ GE566.out | refine below_set ?_ GE585.out | refine below_set ?_ GE588.out) | exact HB.out)) hb)
            clear HO565
            clear HO570
            clear HO574
            clear BK466
            clear BK550
            clear BK561
            clear BK566
            clear BK585
            clear BK588
            clear HB
            have HO565 := n0_
            have HO570 := n1_
            have HO574 := n2_
            have BK466 := n3_
            have BK550 := n4_
            have BK561 := n5_
            have BK566 := n6_
            have BK585 := n7_
            have BK588 := n8_
            have HB := n9_
            clear n0_ n1_ n2_ n3_ n4_ n5_ n6_ n7_ n8_ n9_
            (try clear hb)
            (try clear hb2)
            (try clear hk)
            (try clear hi)
            refine hK.out _ _ ⟨(blk_cell BK585.out 0).trans rfl, (blk_cell BK585.out 1).trans rfl, (blk_cell BK585.out 2).trans rfl, (blk_cell BK585.out 3).trans rfl, (blk_cell BK585.out 4).trans rfl, (blk_cell BK585.out 5).trans rfl, (blk_cell BK585.out 6).trans rfl, (blk_cell BK585.out 7).trans rfl, (blk_cell BK588.out 0).trans rfl, (blk_cell BK588.out 1).trans rfl⟩ (fun hHeld => ?_)
            clear hK K
            refine norm_ (a' := ?_) ?_ ?_
            rotate_left
            ·show Act.put _ (some 119) _ = _
             simp only [Act.put, List.setIfInBounds_toArray, List.set_cons_zero, List.set_cons_succ, i64_w, i32_w]
             rfl
            refine pure_ (i := 32) (N := some 123) (v := ?_) (a' := ?_) #[true, true, true, true, true, true, true, true, true, true, true, true, true, true, true, true, true, true, true, true, true, true, true, true, true, true, true, true, true, true, true, true, true, false, false] rfl rfl (any_of HT_.out (by kernel_rfl)) (fun _ _ _ h => h) (Or.inl ⟨by rfl, ?_⟩) ?_ ?_
            rotate_left
            ·intro w'
             go_simp
             with_reducible rfl
            rotate_left
            ·simp only [Act.put, List.setIfInBounds_toArray, List.set_cons_zero, List.set_cons_succ, i64_w, i32_w]
             rfl
            refine pure_ (i := 33) (N := some 124) (v := ?_) (a' := ?_) #[true, true, true, true, true, true, true, true, true, true, true, true, true, true, true, true, true, true, true, true, true, true, true, true, true, true, true, true, true, true, true, true, true, true, false] rfl rfl (any_of HT_.out (by kernel_rfl)) (fun _ _ _ h => h) (Or.inl ⟨by rfl, ?_⟩) ?_ ?_
            rotate_left
            ·intro w'
             go_simp
             with_reducible rfl
            rotate_left
            ·simp only [Act.put, List.setIfInBounds_toArray, List.set_cons_zero, List.set_cons_succ, i64_w, i32_w]
             rfl
            refine pure_ (i := 34) (N := some 2) (v := ?_) (a' := ?_) #[true, true, true, true, true, true, true, true, true, true, true, true, true, true, true, true, true, true, true, true, true, true, true, true, true, true, true, true, true, true, true, true, true, true, true] rfl rfl (any_of HT_.out (by kernel_rfl)) (fun _ _ _ h => h) (Or.inl ⟨by rfl, ?_⟩) ?_ ?_
            rotate_left
            ·intro w'
             go_simp
             with_reducible rfl
            rotate_left
            ·simp only [Act.put, List.setIfInBounds_toArray, List.set_cons_zero, List.set_cons_succ, i64_w, i32_w]
             rfl
            refine done_ (done_of HT_.out (by kernel_rfl)) ?_
            try go_wp2
            go_ret
            exact ⟨by first | rfl | (simp [errW_none, errW_some] <;> rfl) | (simp [*, errW_none, errW_some] <;> rfl), by repeat (first | (with_reducible first | exact HB.out | apply below_alloc | apply pw_below_drewN | apply below_drew1 | refine below_set ?_ GE466.out | refine below_set ?_ GE550.out | refine below_set ?_ GE561.out | refine below_set ?_ GE566.out | refine below_set ?_ GE585.out | refine below_set ?_ GE588.out) | exact HB.out)⟩
           ·rw [if_neg c155] at H
            have c155b0 : (t591 == t578 && (t592 == t579 && (t593 == t580 && (t594 == t581 && (t595 == t582 && (t596 == t583 && (t597 == t584))))))) = false := by simpa using c155
            (try (have c155b1 : decide (t591 = t578 && (t592 == t579 && (t593 == t580 && (t594 == t581 && (t595 == t582 && (t596 == t583 && (t597 == t584))))))) = false := by simpa using c155))
            (try (have c155b2 : (t591 == t578 && (t592 == t579 && (t593 == t580 && (t594 == t581 && (t595 == t582 && (t596 == t583 && (t597 == t584))))))) = false := by simpa using c155))
            (try (have c155b3 : ¬ (t591 = t578 && (t592 == t579 && (t593 == t580 && (t594 == t581 && (t595 == t582 && (t596 == t583 && (t597 == t584))))))) := by simpa using c155))
            clear c155
            exact absurd H (by simp)
          ·rw [if_neg c153] at H
           have c153b0 : (t586 == 0) = false := beq_eq_false_iff_ne.mpr c153
           have c153b1 : (t586 != 0) = true := bne_iff_ne.mpr c153
           exact absurd H (by simp)
         ·rw [if_neg c152] at H
          have c152b0 : (t578 == t576) = false := beq_eq_false_iff_ne.mpr c152
          have c152b1 : (t578 != t576) = true := bne_iff_ne.mpr c152
          exact absurd H (by simp)
        ·rw [if_neg c151] at H
         have c151b0 : (t589 == 0) = false := beq_eq_false_iff_ne.mpr c151
         have c151b1 : (t589 != 0) = true := bne_iff_ne.mpr c151
         exact absurd H (by simp)
       ·rw [if_neg c148] at H
        have c148b0 : (t577 == 0) = false := beq_eq_false_iff_ne.mpr c148
        have c148b1 : (t577 != 0) = true := bne_iff_ne.mpr c148
        replace H := Option.bind_eq_some_iff.mp H
        obtain ⟨⟨t599, t600, t601, t602, t603, t604, t605, t606⟩, A2120, H⟩ := H
        (try dsimp only at H)
        have A212 := Aside0.mk A2120
        clear A2120
        have hb_ := Option.some.inj H
        clear H
        refine hg_ ?_
        clear hg_ g_
        try go_wp2_with (first | ((with_reducible refine gate_callee (f := 34) rfl ?_); refine goesL_ (some 76) rfl rfl Tryd.func34 (by kernel_rfl) rfl #[.slice A0 l0.length c0] rfl (by (try simp only [List.map_toArray, List.map_cons, List.map_nil]); first | done | rfl | (simp only [List.length_drop, List.length_take]; rfl)) ?_; (with_reducible refine (spec_DrawUsualWay.calls _ _ l0 t576 _ ?side1 ?side2 A146.out).mono ?_); (case side1 => repeat (first | exact (Kd.C_below HR0.out (by repeat (first | (with_reducible first | exact HB.out | apply below_alloc | apply pw_below_drewN | apply below_drew1 | refine below_set ?_ GE466.out | refine below_set ?_ GE550.out | refine below_set ?_ GE561.out | refine below_set ?_ GE566.out) | exact HB.out))) | (with_reducible refine Kd.C_alloc ?_ _) | (with_reducible refine Kd.C_drewN ?_ _) | (with_reducible refine Kd.C_drew ?_))); (case side2 => exact HC0.out); rintro e w245 ⟨rfl, hb⟩; refine ⟨_, rfl, ?_⟩; have n0_ := Aside0.mk (Kd.R_below (by (with_reducible repeat (first | apply Kd.R_alloc | apply Kd.R_drewN | apply Kd.R_drew)); exact HO565.out) hb); have n1_ := Aside0.mk (Kd.R_below (by (with_reducible repeat (first | apply Kd.R_alloc | apply Kd.R_drewN | apply Kd.R_drew)); exact HO570.out) hb); have n2_ := Aside0.mk (Kd.R_below (by (with_reducible repeat (first | apply Kd.R_alloc | apply Kd.R_drewN | apply Kd.R_drew)); exact HO574.out) hb); have n3_ := Aside0.mk (blkb hb BK466.out); have n4_ := Aside0.mk (blkb hb BK550.out); have n5_ := Aside0.mk (blkb hb BK561.out); have n6_ := Aside0.mk (blkb hb BK566.out); have n7_ := Aside0.mk (below_step (by repeat (first | (with_reducible first | exact HB.out | apply below_alloc | apply pw_below_drewN | apply below_drew1 | refine below_set ?_ GE466.out | refine below_set ?_ GE550.out | refine below_set ?_ GE561.out | refine below_set ?_ GE566.out) | exact HB.out)) hb); clear HO565; clear HO570; clear HO574; clear BK466; clear BK550; clear BK561; clear BK566; clear HB; have HO565 := n0_; have HO570 := n1_; have HO574 := n2_; have BK466 := n3_; have BK550 := n4_; have BK561 := n5_; have BK566 := n6_; have HB := n7_; clear n0_ n1_ n2_ n3_ n4_ n5_ n6_ n7_; (try clear hb); (try clear hb2); (try clear hk); (try clear hi)) | ((with_reducible refine gate_callee (f := 35) rfl ?_); refine goesL_ (some 78) rfl rfl Tryd.func35 (by kernel_rfl) rfl #[.int .i64 t576] rfl (by (try simp only [List.map_toArray, List.map_cons, List.map_nil]); first | done | rfl | (simp only [List.length_drop, List.length_take]; rfl)) ?_; (with_reducible refine (impl_UsualWay.calls t576 t577 t578 t579 t580 t581 t582 t583 t584 _ A147.out).mono ?_); rintro e w246 ⟨rfl, hb⟩; refine ⟨_, rfl, ?_⟩; have n0_ := Aside0.mk (Kd.R_below (by (with_reducible repeat (first | apply Kd.R_alloc | apply Kd.R_drewN | apply Kd.R_drew)); exact HO565.out) hb); have n1_ := Aside0.mk (Kd.R_below (by (with_reducible repeat (first | apply Kd.R_alloc | apply Kd.R_drewN | apply Kd.R_drew)); exact HO570.out) hb); have n2_ := Aside0.mk (Kd.R_below (by (with_reducible repeat (first | apply Kd.R_alloc | apply Kd.R_drewN | apply Kd.R_drew)); exact HO574.out) hb); have n3_ := Aside0.mk (blkb hb BK466.out); have n4_ := Aside0.mk (blkb hb BK550.out); have n5_ := Aside0.mk (blkb hb BK561.out); have n6_ := Aside0.mk (blkb hb BK566.out); have n7_ := Aside0.mk (below_step (by repeat (first | (with_reducible first | exact HB.out | apply below_alloc | apply pw_below_drewN | apply below_drew1 | refine below_set ?_ GE466.out | refine below_set ?_ GE550.out | refine below_set ?_ GE561.out | refine below_set ?_ GE566.out) | exact HB.out)) hb); clear HO565; clear HO570; clear HO574; clear BK466; clear BK550; clear BK561; clear BK566; clear HB; have HO565 := n0_; have HO570 := n1_; have HO574 := n2_; have BK466 := n3_; have BK550 := n4_; have BK561 := n5_; have BK566 := n6_; have HB := n7_; clear n0_ n1_ n2_ n3_ n4_ n5_ n6_ n7_; (try clear hb); (try clear hb2); (try clear hk); (try clear hi)) | ((with_reducible refine gate_dst (N := 11) rfl ?_); refine box_event ?hg (N := 11) ?hd (cs := #[.int .i64 0, .int .i64 0, .int .i64 0, .int .i64 0, .int .i64 0, .int .i64 0, .int .i64 0, .int .i64 0]) (t := 46) ?hr ?_; (case hd => rfl); (case hg => rfl); (case hr => first | (go_simp; done) | (go_simp; rfl)); intro gb585 hg w247 hbox hb; have n0_ := Aside0.mk (Kd.R_below (by (with_reducible repeat (first | apply Kd.R_alloc | apply Kd.R_drewN | apply Kd.R_drew)); exact HO565.out) hb); have n1_ := Aside0.mk (Kd.R_below (by (with_reducible repeat (first | apply Kd.R_alloc | apply Kd.R_drewN | apply Kd.R_drew)); exact HO570.out) hb); have n2_ := Aside0.mk (Kd.R_below (by (with_reducible repeat (first | apply Kd.R_alloc | apply Kd.R_drewN | apply Kd.R_drew)); exact HO574.out) hb); have n3_ := Aside0.mk (blkb hb BK466.out); have n4_ := Aside0.mk (blkb hb BK550.out); have n5_ := Aside0.mk (blkb hb BK561.out); have n6_ := Aside0.mk (blkb hb BK566.out); have n7_ := Aside0.mk (below_step (by repeat (first | (with_reducible first | exact HB.out | apply below_alloc | apply pw_below_drewN | apply below_drew1 | refine below_set ?_ GE466.out | refine below_set ?_ GE550.out | refine below_set ?_ GE561.out | refine below_set ?_ GE566.out) | exact HB.out)) hb); have n8_ := Aside0.mk (hbox); have n9_ := Aside0.mk ((by rw [hg]; exact (below_size (by repeat (first | (with_reducible first | exact HB.out | apply below_alloc | apply pw_below_drewN | apply below_drew1 | refine below_set ?_ GE466.out | refine below_set ?_ GE550.out | refine below_set ?_ GE561.out | refine below_set ?_ GE566.out) | exact HB.out))) : w.heap.size ≤ gb585)); have n10_ := Aside0.mk ((by rw [hg]; exact (below_size (by repeat (first | (with_reducible first | exact HB.out | apply below_alloc | apply pw_below_drewN | apply below_drew1 | refine below_set ?_ GE466.out | refine below_set ?_ GE550.out | refine below_set ?_ GE561.out | refine below_set ?_ GE566.out) | exact HB.out))) : w.heap.size ≤ gb585)); have n11_ := Aside0.mk ((blkn hg BK466.out)); have n12_ := Aside0.mk ((blkm hg BK466.out)); have n13_ := Aside0.mk ((blkn hg BK550.out)); have n14_ := Aside0.mk ((blkm hg BK550.out)); have n15_ := Aside0.mk ((blkn hg BK561.out)); have n16_ := Aside0.mk ((blkm hg BK561.out)); have n17_ := Aside0.mk ((blkn hg BK566.out)); have n18_ := Aside0.mk ((blkm hg BK566.out)); clear HO565; clear HO570; clear HO574; clear BK466; clear BK550; clear BK561; clear BK566; clear HB; have HO565 := n0_; have HO570 := n1_; have HO574 := n2_; have BK466 := n3_; have BK550 := n4_; have BK561 := n5_; have BK566 := n6_; have HB := n7_; have BK585 := n8_; have GW585 := n9_; have GE585 := n10_; have NB466_585 := n11_; have NB585_466 := n12_; have NB550_585 := n13_; have NB585_550 := n14_; have NB561_585 := n15_; have NB585_561 := n16_; have NB566_585 := n17_; have NB585_566 := n18_; clear n0_ n1_ n2_ n3_ n4_ n5_ n6_ n7_ n8_ n9_ n10_ n11_ n12_ n13_ n14_ n15_ n16_ n17_ n18_; clear hb hbox hg; have hnb248 := NB585_466.out; have hnc248 := NB466_585.out; have hnb249 := NB585_550.out; have hnc249 := NB550_585.out; have hnb250 := NB585_561.out; have hnc250 := NB561_585.out; have hnb251 := NB585_566.out; have hnc251 := NB566_585.out; have hcz252_0 : w247.cell? ⟨gb585, 0, none⟩ = some (.int .i64 0) := (blk_cell BK585.out 0).trans rfl; have hcz252_1 : w247.cell? ⟨gb585, 1, none⟩ = some (.int .i64 0) := (blk_cell BK585.out 1).trans rfl; have hcz252_2 : w247.cell? ⟨gb585, 2, none⟩ = some (.int .i64 0) := (blk_cell BK585.out 2).trans rfl; have hcz252_3 : w247.cell? ⟨gb585, 3, none⟩ = some (.int .i64 0) := (blk_cell BK585.out 3).trans rfl; have hcz252_4 : w247.cell? ⟨gb585, 4, none⟩ = some (.int .i64 0) := (blk_cell BK585.out 4).trans rfl; have hcz252_5 : w247.cell? ⟨gb585, 5, none⟩ = some (.int .i64 0) := (blk_cell BK585.out 5).trans rfl; have hcz252_6 : w247.cell? ⟨gb585, 6, none⟩ = some (.int .i64 0) := (blk_cell BK585.out 6).trans rfl; have hcz252_7 : w247.cell? ⟨gb585, 7, none⟩ = some (.int .i64 0) := (blk_cell BK585.out 7).trans rfl; have hfz252_0 := blk_frozen BK585.out 0; have hfz252_1 := blk_frozen BK585.out 1; have hfz252_2 := blk_frozen BK585.out 2; have hfz252_3 := blk_frozen BK585.out 3; have hfz252_4 := blk_frozen BK585.out 4; have hfz252_5 := blk_frozen BK585.out 5; have hfz252_6 := blk_frozen BK585.out 6; have hfz252_7 := blk_frozen BK585.out 7) | ((with_reducible refine gate_store (t := 46) (p := 11) rfl ?_); refine Go.Proofs.YtpoafgokngpglaaDoorCells.store_whole (ty := 46) (x := .tmp 11) (y := ?vo_w253) (g := gb585) (cells := [.int .i64 t577, .int .i64 t578, .int .i64 t579, .int .i64 t580, .int .i64 t581, .int .i64 t582, .int .i64 t583, .int .i64 t584]) (t := 46) (old := [.int .i64 0, .int .i64 0, .int .i64 0, .int .i64 0, .int .i64 0, .int .i64 0, .int .i64 0, .int .i64 0]) ?hg ?ho ?hx ?hy ?hn ?hb ?hi rfl rfl ?_; (case ho => rfl); (case hg => rfl); (case hn => rfl); (case hx => rfl); (case hy => first | rfl | (go_simp; done) | (simp [*]; done)); (case hb => exact (by (with_reducible repeat (first | refine blk_drewN ?_ _ | refine blk_drew ?_ | refine blk_alloc ?_ _)); exact BK585.out)); (case hi => kernel_rfl); intro w253 hob_ hbk hfar hbel; have n0_ : Aside0 (Kd.R (Kd.int .u8) 5 w253 w.heap.size (fun k_ => some k_ ≠ (v569 : Value).ownBlock ∧ some k_ ≠ (.slice Ao188 t572.length co188 : Value).ownBlock) (.slice Ao183 t563.length co183) t563) := ⟨Go.Proofs.YtpoafgokngpglaaDoorCells.R_whole (by (with_reducible repeat (first | apply Kd.R_alloc | apply Kd.R_drewN | apply Kd.R_drew)); exact Kd.R_mono HO565.out (fun _ hk => ⟨hk.1.2, hk.2⟩)) hob_ (by decide) hfar⟩; have n1_ : Aside0 (Kd.R (Kd.int .u8) 5 w253 w.heap.size (fun k_ => some k_ ≠ (.slice Ao183 t563.length co183 : Value).ownBlock ∧ some k_ ≠ (.slice Ao188 t572.length co188 : Value).ownBlock) v569 t568) := ⟨Go.Proofs.YtpoafgokngpglaaDoorCells.R_whole (by (with_reducible repeat (first | apply Kd.R_alloc | apply Kd.R_drewN | apply Kd.R_drew)); exact Kd.R_mono HO570.out (fun _ hk => ⟨hk.1.2, hk.2⟩)) hob_ (by decide) hfar⟩; have n2_ : Aside0 (Kd.R (Kd.int .u8) 5 w253 w.heap.size (fun k_ => some k_ ≠ (.slice Ao183 t563.length co183 : Value).ownBlock ∧ some k_ ≠ (v569 : Value).ownBlock) (.slice Ao188 t572.length co188) t572) := ⟨Go.Proofs.YtpoafgokngpglaaDoorCells.R_whole (by (with_reducible repeat (first | apply Kd.R_alloc | apply Kd.R_drewN | apply Kd.R_drew)); exact Kd.R_mono HO574.out (fun _ hk => ⟨hk.1.2, hk.2⟩)) hob_ (by decide) hfar⟩; have n3_ : Aside0 (w253.heap[gb466]? = some (.cells #[.int .i64 t458, .int .i64 t459, .int .i64 t460, .int .i64 t461, .int .i64 t462, .int .i64 t463, .int .i64 t464, .int .i64 t465] 46 (0, 0))) := ⟨(hfar _ NB466_585.out).trans (by (with_reducible repeat (first | refine blk_drewN ?_ _ | refine blk_drew ?_ | refine blk_alloc ?_ _)); exact BK466.out)⟩; have n4_ : Aside0 (w253.heap[gb550]? = some (.cells #[.int .i64 t542, .int .i64 t543, .int .i64 t544, .int .i64 t545, .int .i64 t546, .int .i64 t547, .int .i64 t548] 41 (0, 0))) := ⟨(hfar _ NB550_585.out).trans (by (with_reducible repeat (first | refine blk_drewN ?_ _ | refine blk_drew ?_ | refine blk_alloc ?_ _)); exact BK550.out)⟩; have n5_ : Aside0 (w253.heap[gb561]? = some (.cells #[.int .i64 t553, .int .i64 t554, .int .i64 t555, .int .i64 t556, .int .i64 t557, .int .i64 t558, .int .i64 t559] 41 (0, 0))) := ⟨(hfar _ NB561_585.out).trans (by (with_reducible repeat (first | refine blk_drewN ?_ _ | refine blk_drew ?_ | refine blk_alloc ?_ _)); exact BK561.out)⟩; have n6_ : Aside0 (w253.heap[gb566]? = some (.cells #[.int .i64 t562, .slice Ao183 t563.length co183] 34 (0, 0))) := ⟨(hfar _ NB566_585.out).trans (by (with_reducible repeat (first | refine blk_drewN ?_ _ | refine blk_drew ?_ | refine blk_alloc ?_ _)); exact BK566.out)⟩; have n7_ : Aside0 (w253.heap[gb585]? = some (.cells #[.int .i64 t577, .int .i64 t578, .int .i64 t579, .int .i64 t580, .int .i64 t581, .int .i64 t582, .int .i64 t583, .int .i64 t584] 46 (0, 0))) := ⟨hbk⟩; have n8_ : Aside0 (Below w.heap.size w w253) := ⟨hbel _ _ GE585.out (by repeat (first | (with_reducible first | exact HB.out | apply below_alloc | apply pw_below_drewN | apply below_drew1 | refine below_set ?_ GE466.out | refine below_set ?_ GE550.out | refine below_set ?_ GE561.out | refine below_set ?_ GE566.out | refine below_set ?_ GE585.out) | exact HB.out))⟩; clear hob_ hbk hfar hbel; clear HO565; clear HO570; clear HO574; clear BK466; clear BK550; clear BK561; clear BK566; clear BK585; clear HB; have HO565 := n0_; have HO570 := n1_; have HO574 := n2_; have BK466 := n3_; have BK550 := n4_; have BK561 := n5_; have BK566 := n6_; have BK585 := n7_; have HB := n8_; clear n0_ n1_ n2_ n3_ n4_ n5_ n6_ n7_ n8_; have hcz254_0 : w253.cell? ⟨gb585, 0, none⟩ = some (.int .i64 t577) := (blk_cell BK585.out 0).trans rfl; have hcz254_1 : w253.cell? ⟨gb585, 1, none⟩ = some (.int .i64 t578) := (blk_cell BK585.out 1).trans rfl; have hcz254_2 : w253.cell? ⟨gb585, 2, none⟩ = some (.int .i64 t579) := (blk_cell BK585.out 2).trans rfl; have hcz254_3 : w253.cell? ⟨gb585, 3, none⟩ = some (.int .i64 t580) := (blk_cell BK585.out 3).trans rfl; have hcz254_4 : w253.cell? ⟨gb585, 4, none⟩ = some (.int .i64 t581) := (blk_cell BK585.out 4).trans rfl; have hcz254_5 : w253.cell? ⟨gb585, 5, none⟩ = some (.int .i64 t582) := (blk_cell BK585.out 5).trans rfl; have hcz254_6 : w253.cell? ⟨gb585, 6, none⟩ = some (.int .i64 t583) := (blk_cell BK585.out 6).trans rfl; have hcz254_7 : w253.cell? ⟨gb585, 7, none⟩ = some (.int .i64 t584) := (blk_cell BK585.out 7).trans rfl; have hfz254_0 := blk_frozen BK585.out 0; have hfz254_1 := blk_frozen BK585.out 1; have hfz254_2 := blk_frozen BK585.out 2; have hfz254_3 := blk_frozen BK585.out 3; have hfz254_4 := blk_frozen BK585.out 4; have hfz254_5 := blk_frozen BK585.out 5; have hfz254_6 := blk_frozen BK585.out 6; have hfz254_7 := blk_frozen BK585.out 7))
        have n0_ := Aside0.mk (Kd.R_drew HO565.out)
        have n1_ := Aside0.mk (Kd.R_drew HO570.out)
        have n2_ := Aside0.mk (Kd.R_drew HO574.out)
        have n3_ := Aside0.mk (blk_drew BK466.out)
        have n4_ := Aside0.mk (blk_drew BK550.out)
        have n5_ := Aside0.mk (blk_drew BK561.out)
        have n6_ := Aside0.mk (blk_drew BK566.out)
        have n7_ := Aside0.mk (blk_drew BK585.out)
        have n8_ := Aside0.mk (below_drew1 HB.out)
        clear HO565
        clear HO570
        clear HO574
        clear BK466
        clear BK550
        clear BK561
        clear BK566
        clear BK585
        clear HB
        have HO565 := n0_
        have HO570 := n1_
        have HO574 := n2_
        have BK466 := n3_
        have BK550 := n4_
        have BK561 := n5_
        have BK566 := n6_
        have BK585 := n7_
        have HB := n8_
        clear n0_ n1_ n2_ n3_ n4_ n5_ n6_ n7_ n8_
        refine start_ (n := 7) (S := fun w' => w'.cell? ⟨gb585, 0, none⟩ = some (.int .i64 t577) ∧ w'.cell? ⟨gb585, 1, none⟩ = some (.int .i64 t578) ∧ w'.cell? ⟨gb585, 2, none⟩ = some (.int .i64 t579) ∧ w'.cell? ⟨gb585, 3, none⟩ = some (.int .i64 t580) ∧ w'.cell? ⟨gb585, 4, none⟩ = some (.int .i64 t581) ∧ w'.cell? ⟨gb585, 5, none⟩ = some (.int .i64 t582) ∧ w'.cell? ⟨gb585, 6, none⟩ = some (.int .i64 t583) ∧ w'.cell? ⟨gb585, 7, none⟩ = some (.int .i64 t584)) (ds := []) #[false, false, false, false, false, false, false] (by kernel_rfl) rfl rfl ⟨(blk_cell BK585.out 0).trans rfl, (blk_cell BK585.out 1).trans rfl, (blk_cell BK585.out 2).trans rfl, (blk_cell BK585.out 3).trans rfl, (blk_cell BK585.out 4).trans rfl, (blk_cell BK585.out 5).trans rfl, (blk_cell BK585.out 6).trans rfl, (blk_cell BK585.out 7).trans rfl⟩ (fun hHeld => ?_)
        generalize w253.drew = w255 at HO565 HO570 HO574 BK466 BK550 BK561 BK566 BK585 HB hHeld ⊢
        refine pure_ (i := 0) (N := some 82) (v := ?_) (a' := ?_) #[true, false, false, false, false, false, false] rfl rfl (by kernel_rfl) (fun _ _ _ h => h) (Or.inl ⟨by rfl, ?_⟩) ?_ ?_
        rotate_left
        ·intro w'
         go_simp
         with_reducible rfl
        rotate_left
        ·simp only [Act.put, List.setIfInBounds_toArray, List.set_cons_zero, List.set_cons_succ, i64_w, i32_w]
         rfl
        refine pure_ (i := 3) (N := some 85) (v := ?_) (a' := ?_) #[true, false, false, true, false, false, false] rfl rfl (by kernel_rfl) (fun _ _ _ h => h) (Or.inl ⟨by rfl, ?_⟩) ?_ ?_
        rotate_left
        ·intro w'
         go_simp
         with_reducible rfl
        rotate_left
        ·simp only [Act.put, List.setIfInBounds_toArray, List.set_cons_zero, List.set_cons_succ, i64_w, i32_w]
         rfl
        refine take_ (i := 4) (N := some 86) (v := ?_) (a' := ?_) #[true, false, false, true, true, false, false] rfl rfl (by kernel_rfl) (fun _ _ _ h => h) (Or.inl ⟨by rfl, ?_⟩) hHeld ?_ ?_
        rotate_left
        ·rintro w' ⟨s0, s1, s2, s3, s4, s5, s6, s7⟩
         go_simp
         with_reducible rfl
        rotate_left
        ·simp only [Act.put, List.setIfInBounds_toArray, List.set_cons_zero, List.set_cons_succ, i64_w, i32_w]
         rfl
        refine one_ (i := 1) (N := some 83) #[true, true, false, true, true, false, false] rfl rfl (by kernel_rfl) (by decide) (fun K hK => ?_)
        refine goes_ Tryd.func36 (by kernel_rfl) rfl #[.int .i64 t576] (by rfl) rfl rfl (by (try simp only [List.map_toArray, List.map_cons, List.map_nil]); first | done | rfl | (simp only [List.length_drop, List.length_take]; rfl)) ?_
        with_reducible refine (spec_UsualWay.calls t576 t599 t600 t601 t602 t603 t604 t605 t606 _ A212.out).mono ?_
        rintro e w256 ⟨rfl, hb⟩
        refine ⟨_, rfl, ?_⟩
        have n0_ := Aside0.mk (Kd.R_below (by (with_reducible repeat (first | apply Kd.R_alloc | apply Kd.R_drewN | apply Kd.R_drew)); exact HO565.out) hb)
        have n1_ := Aside0.mk (Kd.R_below (by (with_reducible repeat (first | apply Kd.R_alloc | apply Kd.R_drewN | apply Kd.R_drew)); exact HO570.out) hb)
        have n2_ := Aside0.mk (Kd.R_below (by (with_reducible repeat (first | apply Kd.R_alloc | apply Kd.R_drewN | apply Kd.R_drew)); exact HO574.out) hb)
        have n3_ := Aside0.mk (blkb hb BK466.out)
        have n4_ := Aside0.mk (blkb hb BK550.out)
        have n5_ := Aside0.mk (blkb hb BK561.out)
        have n6_ := Aside0.mk (blkb hb BK566.out)
        have n7_ := Aside0.mk (blkb hb BK585.out)
        have n8_ := Aside0.mk (below_step (by repeat (first | (with_reducible first | exact HB.out | apply below_alloc | apply pw_below_drewN | apply below_drew1 | refine below_set ?_ GE466.out | refine below_set ?_ GE550.out | refine below_set ?_ GE561.out | refine below_set ?_ GE566.out | refine below_set ?_ GE585.out) | exact HB.out)) hb)
        clear HO565
        clear HO570
        clear HO574
        clear BK466
        clear BK550
        clear BK561
        clear BK566
        clear BK585
        clear HB
        have HO565 := n0_
        have HO570 := n1_
        have HO574 := n2_
        have BK466 := n3_
        have BK550 := n4_
        have BK561 := n5_
        have BK566 := n6_
        have BK585 := n7_
        have HB := n8_
        clear n0_ n1_ n2_ n3_ n4_ n5_ n6_ n7_ n8_
        (try clear hb)
        (try clear hb2)
        (try clear hk)
        (try clear hi)
        refine hK.out _ _ ⟨(blk_cell BK585.out 0).trans rfl, (blk_cell BK585.out 1).trans rfl, (blk_cell BK585.out 2).trans rfl, (blk_cell BK585.out 3).trans rfl, (blk_cell BK585.out 4).trans rfl, (blk_cell BK585.out 5).trans rfl, (blk_cell BK585.out 6).trans rfl, (blk_cell BK585.out 7).trans rfl⟩ (fun hHeld => ?_)
        clear hK K
        refine norm_ (a' := ?_) ?_ ?_
        rotate_left
        ·show Act.put _ (some 83) _ = _
         simp only [Act.put, List.setIfInBounds_toArray, List.set_cons_zero, List.set_cons_succ, i64_w, i32_w]
         rfl
        refine pure_ (i := 2) (N := some 84) (v := ?_) (a' := ?_) #[true, true, true, true, true, false, false] rfl rfl (by kernel_rfl) (fun _ _ _ h => h) (Or.inl ⟨by rfl, ?_⟩) ?_ ?_
        rotate_left
        ·intro w'
         go_simp
         with_reducible rfl
        rotate_left
        ·simp only [Act.put, List.setIfInBounds_toArray, List.set_cons_zero, List.set_cons_succ, i64_w, i32_w]
         rfl
        refine pure_ (i := 5) (N := some 87) (v := ?_) (a' := ?_) #[true, true, true, true, true, true, false] rfl rfl (by kernel_rfl) (fun _ _ _ h => h) (Or.inl ⟨by rfl, ?_⟩) ?_ ?_
        rotate_left
        ·intro w'
         go_simp
         with_reducible rfl
        rotate_left
        ·simp only [Act.put, List.setIfInBounds_toArray, List.set_cons_zero, List.set_cons_succ, i64_w, i32_w]
         rfl
        refine pure_ (i := 6) (N := some 2) (v := ?_) (a' := ?_) #[true, true, true, true, true, true, true] rfl rfl (by kernel_rfl) (fun _ _ _ h => h) (Or.inl ⟨by rfl, ?_⟩) ?_ ?_
        rotate_left
        ·intro w'
         go_simp
         with_reducible rfl
        rotate_left
        ·simp only [Act.put, List.setIfInBounds_toArray, List.set_cons_zero, List.set_cons_succ, i64_w, i32_w]
         rfl
        refine done_ (by kernel_rfl) ?_
        try go_wp2
        go_ret
        exact ⟨by first | rfl | (simp [errW_none, errW_some] <;> rfl) | (simp [*, errW_none, errW_some] <;> rfl), by repeat (first | (with_reducible first | exact HB.out | apply below_alloc | apply pw_below_drewN | apply below_drew1 | refine below_set ?_ GE466.out | refine below_set ?_ GE550.out | refine below_set ?_ GE561.out | refine below_set ?_ GE566.out | refine below_set ?_ GE585.out) | exact HB.out)⟩
      ·replace c145 := Bool.eq_false_iff.mpr c145
       subst c145
       rw [if_neg (show ¬ (false = true) by decide)] at H
       exact absurd H (by simp)
     ·rw [if_neg c142] at H
      have c142b0 : (t562 == t567) = false := beq_eq_false_iff_ne.mpr c142
      have c142b1 : (t562 != t567) = true := bne_iff_ne.mpr c142
      exact absurd H (by simp)
  ·rw [if_neg c7] at H
   have c7b0 : (t458 == t467) = false := beq_eq_false_iff_ne.mpr c7
   have c7b1 : (t458 != t467) = true := bne_iff_ne.mpr c7
   exact absurd H (by simp)

end Go.Proofs.YtpoafgokngpglaaDoor.PFnWays
