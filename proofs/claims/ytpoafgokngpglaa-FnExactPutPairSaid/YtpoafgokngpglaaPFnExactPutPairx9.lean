-- Written for this claim by a program of this session's (wip/p2.sh).
import Derived.Test.YtpoafgokngpglaaPFnExactPutPairx0
import Derived.Test.YtpoafgokngpglaaQaShort
import Derived.Test.YtpoafgokngpglaaPFnExactPutPairx4
import Derived.Test.YtpoafgokngpglaaPFnExactPutPairx6
import Derived.Test.YtpoafgokngpglaaPFnExactPutPairx7
import Derived.Test.YtpoafgokngpglaaPFnExactPutPairx8
namespace Go.Proofs.Ytpoafgokngpglaa.PFnExactPutPair
open Go.RowKit Go.Proofs.YtpoafgokngpglaaW.PrintWords Go.Proofs.YtpoafgokngpglaaW.PrintLast Go.Proofs.YtpoafgokngpglaaW.PrintMore Go.Proofs.YtpoafgokngpglaaShort
attribute [local go_sem] max2_int min2_int max_two min_two max_three min_three max_four min_four   -- for this text's walks alone
set_option linter.unusedVariables false
set_option linter.unusedSimpArgs false

/-! ### laws_FnExactPutPair: function 4 -/
def laws_FnExactPutPair.f (k : Nat) (a0_0 : Int) (l0_1 : List (S42)) (a1_0 : Int) (a1_1 : Int) : Option (Bool) := (laws_szFont.f a0_0 l0_1 1048576).bind fun t289 => (if t289 < 0 then (some true) else ((laws_toFont.f k a0_0 l0_1).bind fun bt290 => ((laws_toPair.f a1_0 a1_1).bind fun bt294 => ((spec_PutPair.f k bt290.1 bt290.2 bt294.1 bt294.2).bind fun bt296 => ((laws_toFont.f k a0_0 l0_1).bind fun bt302 => ((laws_toPair.f a1_0 a1_1).bind fun bt307 => ((impl_PutPair.f k bt302.1 bt302.2 bt307.1 bt307.2).bind fun bt309 => ((laws_eqFontResult.f k bt309.1 bt309.2.1 bt309.2.2 bt296.1 bt296.2.1 bt296.2.2).bind fun t315 => (if t315 = true then ((laws_toFont.f k a0_0 l0_1).bind fun bt316 => ((laws_eqFont.f k bt302.1 bt302.2 bt316.1 bt316.2).bind fun t320 => (if t320 = true then ((laws_markFont.f k bt302.1 bt302.2 1).bind fun bt321 => (if bt321.1 < 0 then (some false) else ((laws_eqFontResult.f k bt309.1 bt309.2.1 bt309.2.2 bt296.1 bt296.2.1 bt296.2.2).bind fun t323 => (if t323 = true then ((laws_markFontResult.f k bt309.1 bt309.2.1 bt309.2.2 1).bind fun bt324 => ((laws_heldFontResult.f k bt309.1 bt309.2.1 bt324.2 1).bind fun t326 => (if t326 < 0 then (some false) else (if t326 = bt324.1 then ((laws_toFont.f k a0_0 l0_1).bind fun bt327 => ((laws_toPair.f a1_0 a1_1).bind fun bt331 => ((impl_PutPair.f k bt327.1 bt327.2 bt331.1 bt331.2).bind fun bt333 => ((laws_eqFontResult.f k bt333.1 bt333.2.1 bt333.2.2 bt296.1 bt296.2.1 bt296.2.2).bind fun t339 => (if t339 = true then ((laws_heldFontResult.f k bt309.1 bt309.2.1 bt324.2 1).bind fun t340 => (if t340 < 0 then (some false) else (if t340 = bt324.1 then (some true) else (some false)))) else (some false)))))) else (some false))))) else (some false))))) else (some false)))) else (some false))))))))))
theorem laws_FnExactPutPair.mono : ∀ a0 a1 a2 a3 k, LeO (laws_FnExactPutPair.f k a0 a1 a2 a3) (laws_FnExactPutPair.f (k + 1) a0 a1 a2 a3) := by
 intro a0 a1 a2 a3 k
 unfold laws_FnExactPutPair.f
 repeat' first
   | (with_reducible exact impl_PutPair.mono _ _ _ _ _)
   | (with_reducible exact laws_eqFont.mono _ _ _ _ _)
   | (with_reducible exact laws_eqFontResult.mono _ _ _ _ _ _ _)
   | (with_reducible exact laws_heldFontResult.mono _ _ _ _ _)
   | (with_reducible exact laws_markFont.mono _ _ _ _)
   | (with_reducible exact laws_markFontResult.mono _ _ _ _ _)
   | (with_reducible exact laws_toFont.mono _ _ _)
   | (with_reducible exact spec_PutPair.mono _ _ _ _ _)
   | (with_reducible exact LeO.refl _)
   | (with_reducible exact LeO.none _)
   | (with_reducible refine LeO.ite ?_ ?_)
   | (with_reducible refine LeO.bind ?_ (fun _ => ?_))
   | exact impl_PutPair.mono _ _ _ _ _
   | exact laws_eqFont.mono _ _ _ _ _
   | exact laws_eqFontResult.mono _ _ _ _ _ _ _
   | exact laws_heldFontResult.mono _ _ _ _ _
   | exact laws_markFont.mono _ _ _ _
   | exact laws_markFontResult.mono _ _ _ _ _
   | exact laws_toFont.mono _ _ _
   | exact spec_PutPair.mono _ _ _ _ _
   | exact LeO.none _
   | refine LeO.ite ?_ ?_
   | refine LeO.bind ?_ (fun _ => ?_)
set_option maxHeartbeats 8000000 in
set_option maxRecDepth 100000 in
theorem laws_FnExactPutPair.calls (k : Nat) (a0_0 : Int) (A0_1 : Option Addr) (c0_1 : Nat) (l0_1 : List (S42)) (a1_0 : Int) (a1_1 : Int) (w : World) (hr0_1 : Kd.C k42 w A0_1 l0_1.length l0_1) (hc0_1 : l0_1.length ≤ c0_1) (h : laws_FnExactPutPair.f k a0_0 l0_1 a1_0 a1_1 = some true) :
  Calls Try.prog 4 #[.agg #[.int .i64 a0_0, .slice A0_1 l0_1.length c0_1], .agg #[.int .i64 a1_0, .int .i64 a1_1]] w fun e w' => e = .returned (.bool true) ∧ Below w.heap.size w w' := by
 have hu41 := Try.underlying41
 have hu42 := Try.underlying42
 have hu32 := Try.underlying32
 have hu26 := Try.underlying26
 have HR0_1 := Aside0.mk hr0_1
 have HC0_1 := Aside0.mk hc0_1
 clear hr0_1 hc0_1
 have HB := Aside0.mk (Below.refl w.heap.size w)
 have H : ((laws_szFont.f a0_0 l0_1 1048576).bind fun t289 => (if t289 < 0 then (some true) else ((laws_toFont.f k a0_0 l0_1).bind fun bt290 => ((laws_toPair.f a1_0 a1_1).bind fun bt294 => ((spec_PutPair.f k bt290.1 bt290.2 bt294.1 bt294.2).bind fun bt296 => ((laws_toFont.f k a0_0 l0_1).bind fun bt302 => ((laws_toPair.f a1_0 a1_1).bind fun bt307 => ((impl_PutPair.f k bt302.1 bt302.2 bt307.1 bt307.2).bind fun bt309 => ((laws_eqFontResult.f k bt309.1 bt309.2.1 bt309.2.2 bt296.1 bt296.2.1 bt296.2.2).bind fun t315 => (if t315 = true then ((laws_toFont.f k a0_0 l0_1).bind fun bt316 => ((laws_eqFont.f k bt302.1 bt302.2 bt316.1 bt316.2).bind fun t320 => (if t320 = true then ((laws_markFont.f k bt302.1 bt302.2 1).bind fun bt321 => (if bt321.1 < 0 then (some false) else ((laws_eqFontResult.f k bt309.1 bt309.2.1 bt309.2.2 bt296.1 bt296.2.1 bt296.2.2).bind fun t323 => (if t323 = true then ((laws_markFontResult.f k bt309.1 bt309.2.1 bt309.2.2 1).bind fun bt324 => ((laws_heldFontResult.f k bt309.1 bt309.2.1 bt324.2 1).bind fun t326 => (if t326 < 0 then (some false) else (if t326 = bt324.1 then ((laws_toFont.f k a0_0 l0_1).bind fun bt327 => ((laws_toPair.f a1_0 a1_1).bind fun bt331 => ((impl_PutPair.f k bt327.1 bt327.2 bt331.1 bt331.2).bind fun bt333 => ((laws_eqFontResult.f k bt333.1 bt333.2.1 bt333.2.2 bt296.1 bt296.2.1 bt296.2.2).bind fun t339 => (if t339 = true then ((laws_heldFontResult.f k bt309.1 bt309.2.1 bt324.2 1).bind fun t340 => (if t340 < 0 then (some false) else (if t340 = bt324.1 then (some true) else (some false)))) else (some false)))))) else (some false))))) else (some false))))) else (some false)))) else (some false))))))))))) = some true := h
 clear h
 replace H := Option.bind_eq_some_iff.mp H
 obtain ⟨t289, A30, H⟩ := H
 replace H : (if t289 < 0 then (some true) else ((laws_toFont.f k a0_0 l0_1).bind fun bt290 => ((laws_toPair.f a1_0 a1_1).bind fun bt294 => ((spec_PutPair.f k bt290.1 bt290.2 bt294.1 bt294.2).bind fun bt296 => ((laws_toFont.f k a0_0 l0_1).bind fun bt302 => ((laws_toPair.f a1_0 a1_1).bind fun bt307 => ((impl_PutPair.f k bt302.1 bt302.2 bt307.1 bt307.2).bind fun bt309 => ((laws_eqFontResult.f k bt309.1 bt309.2.1 bt309.2.2 bt296.1 bt296.2.1 bt296.2.2).bind fun t315 => (if t315 = true then ((laws_toFont.f k a0_0 l0_1).bind fun bt316 => ((laws_eqFont.f k bt302.1 bt302.2 bt316.1 bt316.2).bind fun t320 => (if t320 = true then ((laws_markFont.f k bt302.1 bt302.2 1).bind fun bt321 => (if bt321.1 < 0 then (some false) else ((laws_eqFontResult.f k bt309.1 bt309.2.1 bt309.2.2 bt296.1 bt296.2.1 bt296.2.2).bind fun t323 => (if t323 = true then ((laws_markFontResult.f k bt309.1 bt309.2.1 bt309.2.2 1).bind fun bt324 => ((laws_heldFontResult.f k bt309.1 bt309.2.1 bt324.2 1).bind fun t326 => (if t326 < 0 then (some false) else (if t326 = bt324.1 then ((laws_toFont.f k a0_0 l0_1).bind fun bt327 => ((laws_toPair.f a1_0 a1_1).bind fun bt331 => ((impl_PutPair.f k bt327.1 bt327.2 bt331.1 bt331.2).bind fun bt333 => ((laws_eqFontResult.f k bt333.1 bt333.2.1 bt333.2.2 bt296.1 bt296.2.1 bt296.2.2).bind fun t339 => (if t339 = true then ((laws_heldFontResult.f k bt309.1 bt309.2.1 bt324.2 1).bind fun t340 => (if t340 < 0 then (some false) else (if t340 = bt324.1 then (some true) else (some false)))) else (some false)))))) else (some false))))) else (some false))))) else (some false)))) else (some false)))))))))) = some true := H
 have A3 := Aside0.mk A30
 clear A30
 by_cases c4 : t289 < 0
 ·rw [if_pos c4] at H
  have c4b0 : decide (t289 < 0) = true := decide_eq_true c4
  clear c4
  go_enter Try.func4, Try.ntmps4
  go_wp2_with (first | ((with_reducible refine gate_dst (N := 2) rfl ?_); refine box_event ?hg (N := 2) ?hd (cs := #[.int .i64 a0_0, .slice A0_1 l0_1.length c0_1]) (t := 41) ?hr ?_; (case hd => rfl); (case hg => rfl); (case hr => first | (go_simp; done) | (go_simp; rfl)); intro gb287 hg w5 hbox hb; have n0_ := Aside0.mk (below_step (by repeat (first | (with_reducible first | exact HB.out | apply below_alloc | apply pw_below_drewN | apply below_drew1) | exact HB.out)) hb); have n1_ := Aside0.mk (hbox); have n2_ := Aside0.mk ((by rw [hg]; exact (below_size (by repeat (first | (with_reducible first | exact HB.out | apply below_alloc | apply pw_below_drewN | apply below_drew1) | exact HB.out))) : w.heap.size ≤ gb287)); have n3_ := Aside0.mk ((by rw [hg]; exact (below_size (by repeat (first | (with_reducible first | exact HB.out | apply below_alloc | apply pw_below_drewN | apply below_drew1) | exact HB.out))) : w.heap.size ≤ gb287)); clear HB; have HB := n0_; have BK287 := n1_; have GW287 := n2_; have GE287 := n3_; clear n0_ n1_ n2_ n3_; clear hb hbox hg) | ((with_reducible refine gate_dst (N := 3) rfl ?_); refine box_event ?hg (N := 3) ?hd (cs := #[.int .i64 a1_0, .int .i64 a1_1]) (t := 42) ?hr ?_; (case hd => rfl); (case hg => rfl); (case hr => first | (go_simp; done) | (go_simp; rfl)); intro gb288 hg w6 hbox hb; have n0_ := Aside0.mk (blkb hb BK287.out); have n1_ := Aside0.mk (below_step (by repeat (first | (with_reducible first | exact HB.out | apply below_alloc | apply pw_below_drewN | apply below_drew1 | refine below_set ?_ GE287.out) | exact HB.out)) hb); have n2_ := Aside0.mk (hbox); have n3_ := Aside0.mk ((by rw [hg]; exact (below_size (by repeat (first | (with_reducible first | exact HB.out | apply below_alloc | apply pw_below_drewN | apply below_drew1 | refine below_set ?_ GE287.out) | exact HB.out))) : w.heap.size ≤ gb288)); have n4_ := Aside0.mk ((by rw [hg]; exact (below_size (by repeat (first | (with_reducible first | exact HB.out | apply below_alloc | apply pw_below_drewN | apply below_drew1 | refine below_set ?_ GE287.out) | exact HB.out))) : w.heap.size ≤ gb288)); have n5_ := Aside0.mk ((blkn hg BK287.out)); have n6_ := Aside0.mk ((blkm hg BK287.out)); clear BK287; clear HB; have BK287 := n0_; have HB := n1_; have BK288 := n2_; have GW288 := n3_; have GE288 := n4_; have NB287_288 := n5_; have NB288_287 := n6_; clear n0_ n1_ n2_ n3_ n4_ n5_ n6_; clear hb hbox hg; have hnb7 := NB287_288.out; have hnc7 := NB288_287.out; have hcz8_0 : w6.cell? ⟨gb287, 0, none⟩ = some (.int .i64 a0_0) := (blk_cell BK287.out 0).trans rfl; have hcz8_1 : w6.cell? ⟨gb287, 1, none⟩ = some (.slice A0_1 l0_1.length c0_1) := (blk_cell BK287.out 1).trans rfl; have hfz8_0 := blk_frozen BK287.out 0; have hfz8_1 := blk_frozen BK287.out 1) | ((with_reducible refine gate_callee (f := 15) rfl ?_); refine goesL_ (some 15) rfl rfl Try.func15 (by kernel_rfl) rfl #[.agg #[.int .i64 a0_0, .slice A0_1 l0_1.length c0_1], .int .i64 1048576] rfl (by (try simp only [List.map_toArray, List.map_cons, List.map_nil]); first | done | rfl | (simp only [List.length_drop, List.length_take]; rfl)) ?_; (with_reducible refine (laws_szFont.calls a0_0 _ _ l0_1 1048576 t289 _ ?side1 ?side2 A3.out).mono ?_); (case side1 => repeat (first | exact (Kd.C_below HR0_1.out HB.out) | (with_reducible refine Kd.C_alloc ?_ _) | (with_reducible refine Kd.C_drewN ?_ _) | (with_reducible refine Kd.C_drew ?_))); (case side2 => exact HC0_1.out); rintro e w9 ⟨rfl, hb⟩; refine ⟨_, rfl, ?_⟩; have n0_ := Aside0.mk (blkb hb BK287.out); have n1_ := Aside0.mk (blkb hb BK288.out); have n2_ := Aside0.mk (below_step (by repeat (first | (with_reducible first | exact HB.out | apply below_alloc | apply pw_below_drewN | apply below_drew1 | refine below_set ?_ GE287.out | refine below_set ?_ GE288.out) | exact HB.out)) hb); clear BK287; clear BK288; clear HB; have BK287 := n0_; have BK288 := n1_; have HB := n2_; clear n0_ n1_ n2_; (try clear hb); (try clear hb2); (try clear hk); (try clear hi)))
  go_ret
  exact ⟨by first | rfl | (simp [errW_none, errW_some] <;> rfl) | (simp [*, errW_none, errW_some] <;> rfl), by repeat (first | (with_reducible first | exact HB.out | apply below_alloc | apply pw_below_drewN | apply below_drew1 | refine below_set ?_ GE287.out | refine below_set ?_ GE288.out) | exact HB.out)⟩
 ·rw [if_neg c4] at H
  have c4b0 : decide (t289 < 0) = false := decide_eq_false c4
  clear c4
  replace H := Option.bind_eq_some_iff.mp H
  obtain ⟨⟨t290, t291⟩, A100, H⟩ := H
  replace H : ((laws_toPair.f a1_0 a1_1).bind fun bt294 => ((spec_PutPair.f k t290 t291 bt294.1 bt294.2).bind fun bt296 => ((laws_toFont.f k a0_0 l0_1).bind fun bt302 => ((laws_toPair.f a1_0 a1_1).bind fun bt307 => ((impl_PutPair.f k bt302.1 bt302.2 bt307.1 bt307.2).bind fun bt309 => ((laws_eqFontResult.f k bt309.1 bt309.2.1 bt309.2.2 bt296.1 bt296.2.1 bt296.2.2).bind fun t315 => (if t315 = true then ((laws_toFont.f k a0_0 l0_1).bind fun bt316 => ((laws_eqFont.f k bt302.1 bt302.2 bt316.1 bt316.2).bind fun t320 => (if t320 = true then ((laws_markFont.f k bt302.1 bt302.2 1).bind fun bt321 => (if bt321.1 < 0 then (some false) else ((laws_eqFontResult.f k bt309.1 bt309.2.1 bt309.2.2 bt296.1 bt296.2.1 bt296.2.2).bind fun t323 => (if t323 = true then ((laws_markFontResult.f k bt309.1 bt309.2.1 bt309.2.2 1).bind fun bt324 => ((laws_heldFontResult.f k bt309.1 bt309.2.1 bt324.2 1).bind fun t326 => (if t326 < 0 then (some false) else (if t326 = bt324.1 then ((laws_toFont.f k a0_0 l0_1).bind fun bt327 => ((laws_toPair.f a1_0 a1_1).bind fun bt331 => ((impl_PutPair.f k bt327.1 bt327.2 bt331.1 bt331.2).bind fun bt333 => ((laws_eqFontResult.f k bt333.1 bt333.2.1 bt333.2.2 bt296.1 bt296.2.1 bt296.2.2).bind fun t339 => (if t339 = true then ((laws_heldFontResult.f k bt309.1 bt309.2.1 bt324.2 1).bind fun t340 => (if t340 < 0 then (some false) else (if t340 = bt324.1 then (some true) else (some false)))) else (some false)))))) else (some false))))) else (some false))))) else (some false)))) else (some false)))))))) = some true := H
  have A10 := Aside0.mk A100
  clear A100
  replace H := Option.bind_eq_some_iff.mp H
  obtain ⟨⟨t294, t295⟩, A110, H⟩ := H
  replace H : ((spec_PutPair.f k t290 t291 t294 t295).bind fun bt296 => ((laws_toFont.f k a0_0 l0_1).bind fun bt302 => ((laws_toPair.f a1_0 a1_1).bind fun bt307 => ((impl_PutPair.f k bt302.1 bt302.2 bt307.1 bt307.2).bind fun bt309 => ((laws_eqFontResult.f k bt309.1 bt309.2.1 bt309.2.2 bt296.1 bt296.2.1 bt296.2.2).bind fun t315 => (if t315 = true then ((laws_toFont.f k a0_0 l0_1).bind fun bt316 => ((laws_eqFont.f k bt302.1 bt302.2 bt316.1 bt316.2).bind fun t320 => (if t320 = true then ((laws_markFont.f k bt302.1 bt302.2 1).bind fun bt321 => (if bt321.1 < 0 then (some false) else ((laws_eqFontResult.f k bt309.1 bt309.2.1 bt309.2.2 bt296.1 bt296.2.1 bt296.2.2).bind fun t323 => (if t323 = true then ((laws_markFontResult.f k bt309.1 bt309.2.1 bt309.2.2 1).bind fun bt324 => ((laws_heldFontResult.f k bt309.1 bt309.2.1 bt324.2 1).bind fun t326 => (if t326 < 0 then (some false) else (if t326 = bt324.1 then ((laws_toFont.f k a0_0 l0_1).bind fun bt327 => ((laws_toPair.f a1_0 a1_1).bind fun bt331 => ((impl_PutPair.f k bt327.1 bt327.2 bt331.1 bt331.2).bind fun bt333 => ((laws_eqFontResult.f k bt333.1 bt333.2.1 bt333.2.2 bt296.1 bt296.2.1 bt296.2.2).bind fun t339 => (if t339 = true then ((laws_heldFontResult.f k bt309.1 bt309.2.1 bt324.2 1).bind fun t340 => (if t340 < 0 then (some false) else (if t340 = bt324.1 then (some true) else (some false)))) else (some false)))))) else (some false))))) else (some false))))) else (some false)))) else (some false))))))) = some true := H
  have A11 := Aside0.mk A110
  clear A110
  replace H := Option.bind_eq_some_iff.mp H
  obtain ⟨⟨t296, t297, t298⟩, A120, H⟩ := H
  replace H : ((laws_toFont.f k a0_0 l0_1).bind fun bt302 => ((laws_toPair.f a1_0 a1_1).bind fun bt307 => ((impl_PutPair.f k bt302.1 bt302.2 bt307.1 bt307.2).bind fun bt309 => ((laws_eqFontResult.f k bt309.1 bt309.2.1 bt309.2.2 t296 t297 t298).bind fun t315 => (if t315 = true then ((laws_toFont.f k a0_0 l0_1).bind fun bt316 => ((laws_eqFont.f k bt302.1 bt302.2 bt316.1 bt316.2).bind fun t320 => (if t320 = true then ((laws_markFont.f k bt302.1 bt302.2 1).bind fun bt321 => (if bt321.1 < 0 then (some false) else ((laws_eqFontResult.f k bt309.1 bt309.2.1 bt309.2.2 t296 t297 t298).bind fun t323 => (if t323 = true then ((laws_markFontResult.f k bt309.1 bt309.2.1 bt309.2.2 1).bind fun bt324 => ((laws_heldFontResult.f k bt309.1 bt309.2.1 bt324.2 1).bind fun t326 => (if t326 < 0 then (some false) else (if t326 = bt324.1 then ((laws_toFont.f k a0_0 l0_1).bind fun bt327 => ((laws_toPair.f a1_0 a1_1).bind fun bt331 => ((impl_PutPair.f k bt327.1 bt327.2 bt331.1 bt331.2).bind fun bt333 => ((laws_eqFontResult.f k bt333.1 bt333.2.1 bt333.2.2 t296 t297 t298).bind fun t339 => (if t339 = true then ((laws_heldFontResult.f k bt309.1 bt309.2.1 bt324.2 1).bind fun t340 => (if t340 < 0 then (some false) else (if t340 = bt324.1 then (some true) else (some false)))) else (some false)))))) else (some false))))) else (some false))))) else (some false)))) else (some false)))))) = some true := H
  have A12 := Aside0.mk A120
  clear A120
  replace H := Option.bind_eq_some_iff.mp H
  obtain ⟨⟨t302, t303⟩, A130, H⟩ := H
  replace H : ((laws_toPair.f a1_0 a1_1).bind fun bt307 => ((impl_PutPair.f k t302 t303 bt307.1 bt307.2).bind fun bt309 => ((laws_eqFontResult.f k bt309.1 bt309.2.1 bt309.2.2 t296 t297 t298).bind fun t315 => (if t315 = true then ((laws_toFont.f k a0_0 l0_1).bind fun bt316 => ((laws_eqFont.f k t302 t303 bt316.1 bt316.2).bind fun t320 => (if t320 = true then ((laws_markFont.f k t302 t303 1).bind fun bt321 => (if bt321.1 < 0 then (some false) else ((laws_eqFontResult.f k bt309.1 bt309.2.1 bt309.2.2 t296 t297 t298).bind fun t323 => (if t323 = true then ((laws_markFontResult.f k bt309.1 bt309.2.1 bt309.2.2 1).bind fun bt324 => ((laws_heldFontResult.f k bt309.1 bt309.2.1 bt324.2 1).bind fun t326 => (if t326 < 0 then (some false) else (if t326 = bt324.1 then ((laws_toFont.f k a0_0 l0_1).bind fun bt327 => ((laws_toPair.f a1_0 a1_1).bind fun bt331 => ((impl_PutPair.f k bt327.1 bt327.2 bt331.1 bt331.2).bind fun bt333 => ((laws_eqFontResult.f k bt333.1 bt333.2.1 bt333.2.2 t296 t297 t298).bind fun t339 => (if t339 = true then ((laws_heldFontResult.f k bt309.1 bt309.2.1 bt324.2 1).bind fun t340 => (if t340 < 0 then (some false) else (if t340 = bt324.1 then (some true) else (some false)))) else (some false)))))) else (some false))))) else (some false))))) else (some false)))) else (some false))))) = some true := H
  have A13 := Aside0.mk A130
  clear A130
  replace H := Option.bind_eq_some_iff.mp H
  obtain ⟨⟨t307, t308⟩, A140, H⟩ := H
  replace H : ((impl_PutPair.f k t302 t303 t307 t308).bind fun bt309 => ((laws_eqFontResult.f k bt309.1 bt309.2.1 bt309.2.2 t296 t297 t298).bind fun t315 => (if t315 = true then ((laws_toFont.f k a0_0 l0_1).bind fun bt316 => ((laws_eqFont.f k t302 t303 bt316.1 bt316.2).bind fun t320 => (if t320 = true then ((laws_markFont.f k t302 t303 1).bind fun bt321 => (if bt321.1 < 0 then (some false) else ((laws_eqFontResult.f k bt309.1 bt309.2.1 bt309.2.2 t296 t297 t298).bind fun t323 => (if t323 = true then ((laws_markFontResult.f k bt309.1 bt309.2.1 bt309.2.2 1).bind fun bt324 => ((laws_heldFontResult.f k bt309.1 bt309.2.1 bt324.2 1).bind fun t326 => (if t326 < 0 then (some false) else (if t326 = bt324.1 then ((laws_toFont.f k a0_0 l0_1).bind fun bt327 => ((laws_toPair.f a1_0 a1_1).bind fun bt331 => ((impl_PutPair.f k bt327.1 bt327.2 bt331.1 bt331.2).bind fun bt333 => ((laws_eqFontResult.f k bt333.1 bt333.2.1 bt333.2.2 t296 t297 t298).bind fun t339 => (if t339 = true then ((laws_heldFontResult.f k bt309.1 bt309.2.1 bt324.2 1).bind fun t340 => (if t340 < 0 then (some false) else (if t340 = bt324.1 then (some true) else (some false)))) else (some false)))))) else (some false))))) else (some false))))) else (some false)))) else (some false)))) = some true := H
  have A14 := Aside0.mk A140
  clear A140
  replace H := Option.bind_eq_some_iff.mp H
  obtain ⟨⟨t309, t310, t311⟩, A150, H⟩ := H
  replace H : ((laws_eqFontResult.f k t309 t310 t311 t296 t297 t298).bind fun t315 => (if t315 = true then ((laws_toFont.f k a0_0 l0_1).bind fun bt316 => ((laws_eqFont.f k t302 t303 bt316.1 bt316.2).bind fun t320 => (if t320 = true then ((laws_markFont.f k t302 t303 1).bind fun bt321 => (if bt321.1 < 0 then (some false) else ((laws_eqFontResult.f k t309 t310 t311 t296 t297 t298).bind fun t323 => (if t323 = true then ((laws_markFontResult.f k t309 t310 t311 1).bind fun bt324 => ((laws_heldFontResult.f k t309 t310 bt324.2 1).bind fun t326 => (if t326 < 0 then (some false) else (if t326 = bt324.1 then ((laws_toFont.f k a0_0 l0_1).bind fun bt327 => ((laws_toPair.f a1_0 a1_1).bind fun bt331 => ((impl_PutPair.f k bt327.1 bt327.2 bt331.1 bt331.2).bind fun bt333 => ((laws_eqFontResult.f k bt333.1 bt333.2.1 bt333.2.2 t296 t297 t298).bind fun t339 => (if t339 = true then ((laws_heldFontResult.f k t309 t310 bt324.2 1).bind fun t340 => (if t340 < 0 then (some false) else (if t340 = bt324.1 then (some true) else (some false)))) else (some false)))))) else (some false))))) else (some false))))) else (some false)))) else (some false))) = some true := H
  have A15 := Aside0.mk A150
  clear A150
  replace H := Option.bind_eq_some_iff.mp H
  obtain ⟨t315, A160, H⟩ := H
  replace H : (if t315 = true then ((laws_toFont.f k a0_0 l0_1).bind fun bt316 => ((laws_eqFont.f k t302 t303 bt316.1 bt316.2).bind fun t320 => (if t320 = true then ((laws_markFont.f k t302 t303 1).bind fun bt321 => (if bt321.1 < 0 then (some false) else ((laws_eqFontResult.f k t309 t310 t311 t296 t297 t298).bind fun t323 => (if t323 = true then ((laws_markFontResult.f k t309 t310 t311 1).bind fun bt324 => ((laws_heldFontResult.f k t309 t310 bt324.2 1).bind fun t326 => (if t326 < 0 then (some false) else (if t326 = bt324.1 then ((laws_toFont.f k a0_0 l0_1).bind fun bt327 => ((laws_toPair.f a1_0 a1_1).bind fun bt331 => ((impl_PutPair.f k bt327.1 bt327.2 bt331.1 bt331.2).bind fun bt333 => ((laws_eqFontResult.f k bt333.1 bt333.2.1 bt333.2.2 t296 t297 t298).bind fun t339 => (if t339 = true then ((laws_heldFontResult.f k t309 t310 bt324.2 1).bind fun t340 => (if t340 < 0 then (some false) else (if t340 = bt324.1 then (some true) else (some false)))) else (some false)))))) else (some false))))) else (some false))))) else (some false)))) else (some false)) = some true := H
  have A16 := Aside0.mk A160
  clear A160
  by_cases c17 : t315 = true
  ·subst c17
   have H1 : ((laws_toFont.f k a0_0 l0_1).bind fun bt316 => ((laws_eqFont.f k t302 t303 bt316.1 bt316.2).bind fun t320 => (if t320 = true then ((laws_markFont.f k t302 t303 1).bind fun bt321 => (if bt321.1 < 0 then (some false) else ((laws_eqFontResult.f k t309 t310 t311 t296 t297 t298).bind fun t323 => (if t323 = true then ((laws_markFontResult.f k t309 t310 t311 1).bind fun bt324 => ((laws_heldFontResult.f k t309 t310 bt324.2 1).bind fun t326 => (if t326 < 0 then (some false) else (if t326 = bt324.1 then ((laws_toFont.f k a0_0 l0_1).bind fun bt327 => ((laws_toPair.f a1_0 a1_1).bind fun bt331 => ((impl_PutPair.f k bt327.1 bt327.2 bt331.1 bt331.2).bind fun bt333 => ((laws_eqFontResult.f k bt333.1 bt333.2.1 bt333.2.2 t296 t297 t298).bind fun t339 => (if t339 = true then ((laws_heldFontResult.f k t309 t310 bt324.2 1).bind fun t340 => (if t340 < 0 then (some false) else (if t340 = bt324.1 then (some true) else (some false)))) else (some false)))))) else (some false))))) else (some false))))) else (some false)))) = some true := by rw [if_pos rfl] at H; (first | done | exact H)
   clear H
   have H := H1
   clear H1
   replace H := Option.bind_eq_some_iff.mp H
   obtain ⟨⟨t316, t317⟩, A180, H⟩ := H
   replace H : ((laws_eqFont.f k t302 t303 t316 t317).bind fun t320 => (if t320 = true then ((laws_markFont.f k t302 t303 1).bind fun bt321 => (if bt321.1 < 0 then (some false) else ((laws_eqFontResult.f k t309 t310 t311 t296 t297 t298).bind fun t323 => (if t323 = true then ((laws_markFontResult.f k t309 t310 t311 1).bind fun bt324 => ((laws_heldFontResult.f k t309 t310 bt324.2 1).bind fun t326 => (if t326 < 0 then (some false) else (if t326 = bt324.1 then ((laws_toFont.f k a0_0 l0_1).bind fun bt327 => ((laws_toPair.f a1_0 a1_1).bind fun bt331 => ((impl_PutPair.f k bt327.1 bt327.2 bt331.1 bt331.2).bind fun bt333 => ((laws_eqFontResult.f k bt333.1 bt333.2.1 bt333.2.2 t296 t297 t298).bind fun t339 => (if t339 = true then ((laws_heldFontResult.f k t309 t310 bt324.2 1).bind fun t340 => (if t340 < 0 then (some false) else (if t340 = bt324.1 then (some true) else (some false)))) else (some false)))))) else (some false))))) else (some false))))) else (some false))) = some true := H
   have A18 := Aside0.mk A180
   clear A180
   replace H := Option.bind_eq_some_iff.mp H
   obtain ⟨t320, A190, H⟩ := H
   replace H : (if t320 = true then ((laws_markFont.f k t302 t303 1).bind fun bt321 => (if bt321.1 < 0 then (some false) else ((laws_eqFontResult.f k t309 t310 t311 t296 t297 t298).bind fun t323 => (if t323 = true then ((laws_markFontResult.f k t309 t310 t311 1).bind fun bt324 => ((laws_heldFontResult.f k t309 t310 bt324.2 1).bind fun t326 => (if t326 < 0 then (some false) else (if t326 = bt324.1 then ((laws_toFont.f k a0_0 l0_1).bind fun bt327 => ((laws_toPair.f a1_0 a1_1).bind fun bt331 => ((impl_PutPair.f k bt327.1 bt327.2 bt331.1 bt331.2).bind fun bt333 => ((laws_eqFontResult.f k bt333.1 bt333.2.1 bt333.2.2 t296 t297 t298).bind fun t339 => (if t339 = true then ((laws_heldFontResult.f k t309 t310 bt324.2 1).bind fun t340 => (if t340 < 0 then (some false) else (if t340 = bt324.1 then (some true) else (some false)))) else (some false)))))) else (some false))))) else (some false))))) else (some false)) = some true := H
   have A19 := Aside0.mk A190
   clear A190
   by_cases c20 : t320 = true
   ·subst c20
    have H1 : ((laws_markFont.f k t302 t303 1).bind fun bt321 => (if bt321.1 < 0 then (some false) else ((laws_eqFontResult.f k t309 t310 t311 t296 t297 t298).bind fun t323 => (if t323 = true then ((laws_markFontResult.f k t309 t310 t311 1).bind fun bt324 => ((laws_heldFontResult.f k t309 t310 bt324.2 1).bind fun t326 => (if t326 < 0 then (some false) else (if t326 = bt324.1 then ((laws_toFont.f k a0_0 l0_1).bind fun bt327 => ((laws_toPair.f a1_0 a1_1).bind fun bt331 => ((impl_PutPair.f k bt327.1 bt327.2 bt331.1 bt331.2).bind fun bt333 => ((laws_eqFontResult.f k bt333.1 bt333.2.1 bt333.2.2 t296 t297 t298).bind fun t339 => (if t339 = true then ((laws_heldFontResult.f k t309 t310 bt324.2 1).bind fun t340 => (if t340 < 0 then (some false) else (if t340 = bt324.1 then (some true) else (some false)))) else (some false)))))) else (some false))))) else (some false))))) = some true := by rw [if_pos rfl] at H; (first | done | exact H)
    clear H
    have H := H1
    clear H1
    replace H := Option.bind_eq_some_iff.mp H
    obtain ⟨⟨t321, t322⟩, A210, H⟩ := H
    replace H : (if t321 < 0 then (some false) else ((laws_eqFontResult.f k t309 t310 t311 t296 t297 t298).bind fun t323 => (if t323 = true then ((laws_markFontResult.f k t309 t310 t311 1).bind fun bt324 => ((laws_heldFontResult.f k t309 t310 bt324.2 1).bind fun t326 => (if t326 < 0 then (some false) else (if t326 = bt324.1 then ((laws_toFont.f k a0_0 l0_1).bind fun bt327 => ((laws_toPair.f a1_0 a1_1).bind fun bt331 => ((impl_PutPair.f k bt327.1 bt327.2 bt331.1 bt331.2).bind fun bt333 => ((laws_eqFontResult.f k bt333.1 bt333.2.1 bt333.2.2 t296 t297 t298).bind fun t339 => (if t339 = true then ((laws_heldFontResult.f k t309 t310 bt324.2 1).bind fun t340 => (if t340 < 0 then (some false) else (if t340 = bt324.1 then (some true) else (some false)))) else (some false)))))) else (some false))))) else (some false)))) = some true := H
    have A21 := Aside0.mk A210
    clear A210
    by_cases c22 : t321 < 0
    ·rw [if_pos c22] at H
     have c22b0 : decide (t321 < 0) = true := decide_eq_true c22
     clear c22
     exact absurd H (by simp)
    ·rw [if_neg c22] at H
     have c22b0 : decide (t321 < 0) = false := decide_eq_false c22
     clear c22
     replace H := Option.bind_eq_some_iff.mp H
     obtain ⟨t323, A230, H⟩ := H
     replace H : (if t323 = true then ((laws_markFontResult.f k t309 t310 t311 1).bind fun bt324 => ((laws_heldFontResult.f k t309 t310 bt324.2 1).bind fun t326 => (if t326 < 0 then (some false) else (if t326 = bt324.1 then ((laws_toFont.f k a0_0 l0_1).bind fun bt327 => ((laws_toPair.f a1_0 a1_1).bind fun bt331 => ((impl_PutPair.f k bt327.1 bt327.2 bt331.1 bt331.2).bind fun bt333 => ((laws_eqFontResult.f k bt333.1 bt333.2.1 bt333.2.2 t296 t297 t298).bind fun t339 => (if t339 = true then ((laws_heldFontResult.f k t309 t310 bt324.2 1).bind fun t340 => (if t340 < 0 then (some false) else (if t340 = bt324.1 then (some true) else (some false)))) else (some false)))))) else (some false))))) else (some false)) = some true := H
     have A23 := Aside0.mk A230
     clear A230
     by_cases c24 : t323 = true
     ·subst c24
      have H1 : ((laws_markFontResult.f k t309 t310 t311 1).bind fun bt324 => ((laws_heldFontResult.f k t309 t310 bt324.2 1).bind fun t326 => (if t326 < 0 then (some false) else (if t326 = bt324.1 then ((laws_toFont.f k a0_0 l0_1).bind fun bt327 => ((laws_toPair.f a1_0 a1_1).bind fun bt331 => ((impl_PutPair.f k bt327.1 bt327.2 bt331.1 bt331.2).bind fun bt333 => ((laws_eqFontResult.f k bt333.1 bt333.2.1 bt333.2.2 t296 t297 t298).bind fun t339 => (if t339 = true then ((laws_heldFontResult.f k t309 t310 bt324.2 1).bind fun t340 => (if t340 < 0 then (some false) else (if t340 = bt324.1 then (some true) else (some false)))) else (some false)))))) else (some false))))) = some true := by rw [if_pos rfl] at H; (first | done | exact H)
      clear H
      have H := H1
      clear H1
      replace H := Option.bind_eq_some_iff.mp H
      obtain ⟨⟨t324, t325⟩, A250, H⟩ := H
      replace H : ((laws_heldFontResult.f k t309 t310 t325 1).bind fun t326 => (if t326 < 0 then (some false) else (if t326 = t324 then ((laws_toFont.f k a0_0 l0_1).bind fun bt327 => ((laws_toPair.f a1_0 a1_1).bind fun bt331 => ((impl_PutPair.f k bt327.1 bt327.2 bt331.1 bt331.2).bind fun bt333 => ((laws_eqFontResult.f k bt333.1 bt333.2.1 bt333.2.2 t296 t297 t298).bind fun t339 => (if t339 = true then ((laws_heldFontResult.f k t309 t310 t325 1).bind fun t340 => (if t340 < 0 then (some false) else (if t340 = t324 then (some true) else (some false)))) else (some false)))))) else (some false)))) = some true := H
      have A25 := Aside0.mk A250
      clear A250
      replace H := Option.bind_eq_some_iff.mp H
      obtain ⟨t326, A260, H⟩ := H
      replace H : (if t326 < 0 then (some false) else (if t326 = t324 then ((laws_toFont.f k a0_0 l0_1).bind fun bt327 => ((laws_toPair.f a1_0 a1_1).bind fun bt331 => ((impl_PutPair.f k bt327.1 bt327.2 bt331.1 bt331.2).bind fun bt333 => ((laws_eqFontResult.f k bt333.1 bt333.2.1 bt333.2.2 t296 t297 t298).bind fun t339 => (if t339 = true then ((laws_heldFontResult.f k t309 t310 t325 1).bind fun t340 => (if t340 < 0 then (some false) else (if t340 = t324 then (some true) else (some false)))) else (some false)))))) else (some false))) = some true := H
      have A26 := Aside0.mk A260
      clear A260
      by_cases c27 : t326 < 0
      ·rw [if_pos c27] at H
       have c27b0 : decide (t326 < 0) = true := decide_eq_true c27
       clear c27
       exact absurd H (by simp)
      ·rw [if_neg c27] at H
       have c27b0 : decide (t326 < 0) = false := decide_eq_false c27
       clear c27
       by_cases c28 : t326 = t324
       ·rw [if_pos c28] at H
        have c28b0 : (t326 == t324) = true := beq_iff_eq.mpr c28
        have c28b1 : (t326 != t324) = false := bne_eq_false_iff_eq.mpr c28
        clear c28
        replace H := Option.bind_eq_some_iff.mp H
        obtain ⟨⟨t327, t328⟩, A290, H⟩ := H
        replace H : ((laws_toPair.f a1_0 a1_1).bind fun bt331 => ((impl_PutPair.f k t327 t328 bt331.1 bt331.2).bind fun bt333 => ((laws_eqFontResult.f k bt333.1 bt333.2.1 bt333.2.2 t296 t297 t298).bind fun t339 => (if t339 = true then ((laws_heldFontResult.f k t309 t310 t325 1).bind fun t340 => (if t340 < 0 then (some false) else (if t340 = t324 then (some true) else (some false)))) else (some false))))) = some true := H
        have A29 := Aside0.mk A290
        clear A290
        replace H := Option.bind_eq_some_iff.mp H
        obtain ⟨⟨t331, t332⟩, A300, H⟩ := H
        replace H : ((impl_PutPair.f k t327 t328 t331 t332).bind fun bt333 => ((laws_eqFontResult.f k bt333.1 bt333.2.1 bt333.2.2 t296 t297 t298).bind fun t339 => (if t339 = true then ((laws_heldFontResult.f k t309 t310 t325 1).bind fun t340 => (if t340 < 0 then (some false) else (if t340 = t324 then (some true) else (some false)))) else (some false)))) = some true := H
        have A30 := Aside0.mk A300
        clear A300
        replace H := Option.bind_eq_some_iff.mp H
        obtain ⟨⟨t333, t334, t335⟩, A310, H⟩ := H
        replace H : ((laws_eqFontResult.f k t333 t334 t335 t296 t297 t298).bind fun t339 => (if t339 = true then ((laws_heldFontResult.f k t309 t310 t325 1).bind fun t340 => (if t340 < 0 then (some false) else (if t340 = t324 then (some true) else (some false)))) else (some false))) = some true := H
        have A31 := Aside0.mk A310
        clear A310
        replace H := Option.bind_eq_some_iff.mp H
        obtain ⟨t339, A320, H⟩ := H
        replace H : (if t339 = true then ((laws_heldFontResult.f k t309 t310 t325 1).bind fun t340 => (if t340 < 0 then (some false) else (if t340 = t324 then (some true) else (some false)))) else (some false)) = some true := H
        have A32 := Aside0.mk A320
        clear A320
        by_cases c33 : t339 = true
        ·subst c33
         have H1 : ((laws_heldFontResult.f k t309 t310 t325 1).bind fun t340 => (if t340 < 0 then (some false) else (if t340 = t324 then (some true) else (some false)))) = some true := by rw [if_pos rfl] at H; (first | done | exact H)
         clear H
         have H := H1
         clear H1
         replace H := Option.bind_eq_some_iff.mp H
         obtain ⟨t340, A340, H⟩ := H
         replace H : (if t340 < 0 then (some false) else (if t340 = t324 then (some true) else (some false))) = some true := H
         have A34 := Aside0.mk A340
         clear A340
         by_cases c35 : t340 < 0
         ·rw [if_pos c35] at H
          have c35b0 : decide (t340 < 0) = true := decide_eq_true c35
          clear c35
          exact absurd H (by simp)
         ·rw [if_neg c35] at H
          have c35b0 : decide (t340 < 0) = false := decide_eq_false c35
          clear c35
          by_cases c36 : t340 = t324
          ·rw [if_pos c36] at H
           have c36b0 : (t340 == t324) = true := beq_iff_eq.mpr c36
           have c36b1 : (t340 != t324) = false := bne_eq_false_iff_eq.mpr c36
           clear c36
           go_enter Try.func4, Try.ntmps4
           try go_wp2_with (first | ((with_reducible refine gate_dst (N := 2) rfl ?_); refine box_event ?hg (N := 2) ?hd (cs := #[.int .i64 a0_0, .slice A0_1 l0_1.length c0_1]) (t := 41) ?hr ?_; (case hd => rfl); (case hg => rfl); (case hr => first | (go_simp; done) | (go_simp; rfl)); intro gb287 hg w37 hbox hb; have n0_ := Aside0.mk (below_step (by repeat (first | (with_reducible first | exact HB.out | apply below_alloc | apply pw_below_drewN | apply below_drew1) | exact HB.out)) hb); have n1_ := Aside0.mk (hbox); have n2_ := Aside0.mk ((by rw [hg]; exact (below_size (by repeat (first | (with_reducible first | exact HB.out | apply below_alloc | apply pw_below_drewN | apply below_drew1) | exact HB.out))) : w.heap.size ≤ gb287)); have n3_ := Aside0.mk ((by rw [hg]; exact (below_size (by repeat (first | (with_reducible first | exact HB.out | apply below_alloc | apply pw_below_drewN | apply below_drew1) | exact HB.out))) : w.heap.size ≤ gb287)); clear HB; have HB := n0_; have BK287 := n1_; have GW287 := n2_; have GE287 := n3_; clear n0_ n1_ n2_ n3_; clear hb hbox hg) | ((with_reducible refine gate_dst (N := 3) rfl ?_); refine box_event ?hg (N := 3) ?hd (cs := #[.int .i64 a1_0, .int .i64 a1_1]) (t := 42) ?hr ?_; (case hd => rfl); (case hg => rfl); (case hr => first | (go_simp; done) | (go_simp; rfl)); intro gb288 hg w38 hbox hb; have n0_ := Aside0.mk (blkb hb BK287.out); have n1_ := Aside0.mk (below_step (by repeat (first | (with_reducible first | exact HB.out | apply below_alloc | apply pw_below_drewN | apply below_drew1 | refine below_set ?_ GE287.out) | exact HB.out)) hb); have n2_ := Aside0.mk (hbox); have n3_ := Aside0.mk ((by rw [hg]; exact (below_size (by repeat (first | (with_reducible first | exact HB.out | apply below_alloc | apply pw_below_drewN | apply below_drew1 | refine below_set ?_ GE287.out) | exact HB.out))) : w.heap.size ≤ gb288)); have n4_ := Aside0.mk ((by rw [hg]; exact (below_size (by repeat (first | (with_reducible first | exact HB.out | apply below_alloc | apply pw_below_drewN | apply below_drew1 | refine below_set ?_ GE287.out) | exact HB.out))) : w.heap.size ≤ gb288)); have n5_ := Aside0.mk ((blkn hg BK287.out)); have n6_ := Aside0.mk ((blkm hg BK287.out)); clear BK287; clear HB; have BK287 := n0_; have HB := n1_; have BK288 := n2_; have GW288 := n3_; have GE288 := n4_; have NB287_288 := n5_; have NB288_287 := n6_; clear n0_ n1_ n2_ n3_ n4_ n5_ n6_; clear hb hbox hg; have hnb39 := NB287_288.out; have hnc39 := NB288_287.out; have hcz40_0 : w38.cell? ⟨gb287, 0, none⟩ = some (.int .i64 a0_0) := (blk_cell BK287.out 0).trans rfl; have hcz40_1 : w38.cell? ⟨gb287, 1, none⟩ = some (.slice A0_1 l0_1.length c0_1) := (blk_cell BK287.out 1).trans rfl; have hfz40_0 := blk_frozen BK287.out 0; have hfz40_1 := blk_frozen BK287.out 1) | ((with_reducible refine gate_callee (f := 15) rfl ?_); refine goesL_ (some 15) rfl rfl Try.func15 (by kernel_rfl) rfl #[.agg #[.int .i64 a0_0, .slice A0_1 l0_1.length c0_1], .int .i64 1048576] rfl (by (try simp only [List.map_toArray, List.map_cons, List.map_nil]); first | done | rfl | (simp only [List.length_drop, List.length_take]; rfl)) ?_; (with_reducible refine (laws_szFont.calls a0_0 _ _ l0_1 1048576 t289 _ ?side1 ?side2 A3.out).mono ?_); (case side1 => repeat (first | exact (Kd.C_below HR0_1.out HB.out) | (with_reducible refine Kd.C_alloc ?_ _) | (with_reducible refine Kd.C_drewN ?_ _) | (with_reducible refine Kd.C_drew ?_))); (case side2 => exact HC0_1.out); rintro e w41 ⟨rfl, hb⟩; refine ⟨_, rfl, ?_⟩; have n0_ := Aside0.mk (blkb hb BK287.out); have n1_ := Aside0.mk (blkb hb BK288.out); have n2_ := Aside0.mk (below_step (by repeat (first | (with_reducible first | exact HB.out | apply below_alloc | apply pw_below_drewN | apply below_drew1 | refine below_set ?_ GE287.out | refine below_set ?_ GE288.out) | exact HB.out)) hb); clear BK287; clear BK288; clear HB; have BK287 := n0_; have BK288 := n1_; have HB := n2_; clear n0_ n1_ n2_; (try clear hb); (try clear hb2); (try clear hk); (try clear hi)))
           have n0_ := Aside0.mk (blk_drew BK287.out)
           have n1_ := Aside0.mk (blk_drew BK288.out)
           have n2_ := Aside0.mk (below_drew1 HB.out)
           clear BK287
           clear BK288
           clear HB
           have BK287 := n0_
           have BK288 := n1_
           have HB := n2_
           clear n0_ n1_ n2_
           refine start_ (n := 7) (S := fun w' => w'.cell? ⟨gb287, 0, none⟩ = some (.int .i64 a0_0) ∧ w'.cell? ⟨gb287, 1, none⟩ = some (.slice A0_1 l0_1.length c0_1) ∧ w'.cell? ⟨gb288, 0, none⟩ = some (.int .i64 a1_0) ∧ w'.cell? ⟨gb288, 1, none⟩ = some (.int .i64 a1_1)) (ds := []) #[false, false, false, false, false, false, false] (by kernel_rfl) rfl rfl ⟨(blk_cell BK287.out 0).trans rfl, (blk_cell BK287.out 1).trans rfl, (blk_cell BK288.out 0).trans rfl, (blk_cell BK288.out 1).trans rfl⟩ (fun hHeld => ?_)
           generalize w41.drew = w42 at BK287 BK288 HB hHeld ⊢
           refine take_ (i := 0) (N := some 18) (v := ?_) (a' := ?_) #[true, false, false, false, false, false, false] rfl rfl (by kernel_rfl) (fun _ _ _ h => h) (Or.inl ⟨by rfl, ?_⟩) hHeld ?_ ?_
           rotate_left
           ·rintro w' ⟨s0, s1, s2, s3⟩
            go_simp
            with_reducible rfl
           rotate_left
           ·simp only [Act.put, List.setIfInBounds_toArray, List.set_cons_zero, List.set_cons_succ, i64_w, i32_w]
            rfl
           refine take_ (i := 2) (N := some 20) (v := ?_) (a' := ?_) #[true, false, true, false, false, false, false] rfl rfl (by kernel_rfl) (fun _ _ _ h => h) (Or.inl ⟨by rfl, ?_⟩) hHeld ?_ ?_
           rotate_left
           ·rintro w' ⟨s0, s1, s2, s3⟩
            go_simp
            with_reducible rfl
           rotate_left
           ·simp only [Act.put, List.setIfInBounds_toArray, List.set_cons_zero, List.set_cons_succ, i64_w, i32_w]
            rfl
           refine join_ (σ := Value × Value × Nat) 1 #[true, true, true, true, true, true, false] (fun s_ => [(19, .agg #[.int .i64 t290, s_.1]), (21, .agg #[.int .i64 t294, .int .i64 t295]), (22, .agg #[.int .i64 t296, .int .i64 t297, s_.2.1]), (6, .pointer (some ⟨s_.2.2, 0, none⟩))]) (fun s_ w' => (w'.cell? ⟨gb287, 0, none⟩ = some (.int .i64 a0_0) ∧ w'.cell? ⟨gb287, 1, none⟩ = some (.slice A0_1 l0_1.length c0_1) ∧ w'.cell? ⟨gb288, 0, none⟩ = some (.int .i64 a1_0) ∧ w'.cell? ⟨gb288, 1, none⟩ = some (.int .i64 a1_1)) ∧ (Kd.R k28 28 w' w.heap.size (fun k_ => some k_ ≠ (s_.2.1 : Value).ownBlock) s_.1 t291) ∧ (Kd.R k28 28 w' w.heap.size (fun k_ => some k_ ≠ (s_.1 : Value).ownBlock) s_.2.1 t298) ∧ (w'.heap[gb287]? = some (.cells #[.int .i64 a0_0, .slice A0_1 l0_1.length c0_1] 41 (0, 0))) ∧ (w'.heap[gb288]? = some (.cells #[.int .i64 a1_0, .int .i64 a1_1] 42 (0, 0))) ∧ (w'.heap[s_.2.2]? = some (.cells #[.int .i64 0, .int .i64 0, .slice none 0 0] 32 (0, 0))) ∧ (w.heap.size ≤ s_.2.2) ∧ (w.heap.size ≤ s_.2.2) ∧ (gb287 ≠ s_.2.2) ∧ (s_.2.2 ≠ gb287) ∧ (gb288 ≠ s_.2.2) ∧ (s_.2.2 ≠ gb288) ∧ (Below w.heap.size w w')) ?_ ?_
           rotate_left
           ·intro hCont
            refine two_ (i := 1) (j := 5) (Ni := some 19) (Nj := some 6) #[true, true, true, false, false, false, false] #[true, false, true, false, false, true, false] rfl rfl rfl rfl (by kernel_rfl) (by decide) (by decide) (fun K hK => ?_) (fun K hK => ?_)
            ·skip
             refine goes_ Try.func16 (by kernel_rfl) rfl #[.agg #[.int .i64 a0_0, .slice A0_1 l0_1.length c0_1]] (by rfl) rfl rfl (by (try simp only [List.map_toArray, List.map_cons, List.map_nil]); first | done | rfl | (simp only [List.length_drop, List.length_take]; rfl)) ?_
             with_reducible refine (laws_toFont.calls k a0_0 _ _ l0_1 t290 t291 _ ?side1 ?side2 A10.out).mono ?_
             (case side1 => repeat (first | exact (Kd.C_below HR0_1.out HB.out) | (with_reducible refine Kd.C_alloc ?_ _) | (with_reducible refine Kd.C_drewN ?_ _) | (with_reducible refine Kd.C_drew ?_)))
             (case side2 => exact HC0_1.out)
             rintro e w43 ⟨v292, rfl, ho0, hb⟩
             refine ⟨_, rfl, ?_⟩
             have n0_ := Aside0.mk (Kd.R_lower ho0 (below_size (by repeat (first | (with_reducible first | exact HB.out | apply below_alloc | apply pw_below_drewN | apply below_drew1 | refine below_set ?_ GE287.out | refine below_set ?_ GE288.out) | exact HB.out))))
             have n1_ := Aside0.mk (blkb hb BK287.out)
             have n2_ := Aside0.mk (blkb hb BK288.out)
             have n3_ := Aside0.mk (below_step (by repeat (first | (with_reducible first | exact HB.out | apply below_alloc | apply pw_below_drewN | apply below_drew1 | refine below_set ?_ GE287.out | refine below_set ?_ GE288.out) | exact HB.out)) hb)
             clear BK287
             clear BK288
             clear HB
             have HO293 := n0_
             have BK287 := n1_
             have BK288 := n2_
             have HB := n3_
             clear n0_ n1_ n2_ n3_
             (try clear hb)
             (try clear hb2)
             (try clear hk)
             (try clear hi)
             (try clear ho0)
             refine hK.out _ _ ⟨(blk_cell BK287.out 0).trans rfl, (blk_cell BK287.out 1).trans rfl, (blk_cell BK288.out 0).trans rfl, (blk_cell BK288.out 1).trans rfl⟩ (fun hHeld => ?_)
             clear hK K
             refine norm_ (a' := ?_) ?_ ?_
             rotate_left
             ·show Act.put _ (some 19) _ = _
              simp only [Act.put, List.setIfInBounds_toArray, List.set_cons_zero, List.set_cons_succ, i64_w, i32_w]
              rfl
             refine two_ (i := 3) (j := 5) (Ni := some 21) (Nj := some 6) #[true, true, true, true, false, false, false] #[true, true, true, false, false, true, false] rfl rfl rfl rfl (by kernel_rfl) (by decide) (by decide) (fun K hK => ?_) (fun K hK => ?_)
             ·skip
              refine goes_ Try.func17 (by kernel_rfl) rfl #[.agg #[.int .i64 a1_0, .int .i64 a1_1]] (by rfl) rfl rfl (by (try simp only [List.map_toArray, List.map_cons, List.map_nil]); first | done | rfl | (simp only [List.length_drop, List.length_take]; rfl)) ?_
              with_reducible refine (laws_toPair.calls a1_0 a1_1 t294 t295 _ A11.out).mono ?_
              rintro e w44 ⟨rfl, hb⟩
              refine ⟨_, rfl, ?_⟩
              have n0_ := Aside0.mk (Kd.R_below (by (with_reducible repeat (first | apply Kd.R_alloc | apply Kd.R_drewN | apply Kd.R_drew)); exact HO293.out) hb)
              have n1_ := Aside0.mk (blkb hb BK287.out)
              have n2_ := Aside0.mk (blkb hb BK288.out)
              have n3_ := Aside0.mk (below_step (by repeat (first | (with_reducible first | exact HB.out | apply below_alloc | apply pw_below_drewN | apply below_drew1 | refine below_set ?_ GE287.out | refine below_set ?_ GE288.out) | exact HB.out)) hb)
              clear HO293
              clear BK287
              clear BK288
              clear HB
              have HO293 := n0_
              have BK287 := n1_
              have BK288 := n2_
              have HB := n3_
              clear n0_ n1_ n2_ n3_
              (try clear hb)
              (try clear hb2)
              (try clear hk)
              (try clear hi)
              obtain ⟨Ao45, co45, eo45⟩ := Kd.R_slice HO293.out
              (first | subst eo45 | (injection eo45 with f1_ f2_ f3_; have f4_ := f1_.symm; have f5_ := f3_.symm; clear f1_ f2_ f3_; subst f4_; subst f5_))
              refine hK.out _ _ ⟨(blk_cell BK287.out 0).trans rfl, (blk_cell BK287.out 1).trans rfl, (blk_cell BK288.out 0).trans rfl, (blk_cell BK288.out 1).trans rfl⟩ (fun hHeld => ?_)
              clear hK K
              refine norm_ (a' := ?_) ?_ ?_
              rotate_left
              ·show Act.put _ (some 21) _ = _
               simp only [Act.put, List.setIfInBounds_toArray, List.set_cons_zero, List.set_cons_succ, i64_w, i32_w]
               rfl
              refine two_ (i := 4) (j := 5) (Ni := some 22) (Nj := some 6) #[true, true, true, true, true, false, false] #[true, true, true, true, false, true, false] rfl rfl rfl rfl (by kernel_rfl) (by decide) (by decide) (fun K hK => ?_) (fun K hK => ?_)
              ·skip
               refine goes_ Try.func10 (by kernel_rfl) rfl #[.agg #[.int .i64 t290, .slice Ao45 t291.length co45], .agg #[.int .i64 t294, .int .i64 t295]] (by rfl) rfl rfl (by (try simp only [List.map_toArray, List.map_cons, List.map_nil]); first | done | rfl | (simp only [List.length_drop, List.length_take]; rfl)) ?_
               with_reducible refine (spec_PutPair.calls k t290 _ _ t291 t294 t295 t296 t297 t298 _ ?side1 ?side2 A12.out).mono ?_
               (case side1 => repeat (first | exact (Kd.R_reads' HO293.out).2.2 | (with_reducible refine Kd.C_alloc ?_ _) | (with_reducible refine Kd.C_drewN ?_ _) | (with_reducible refine Kd.C_drew ?_)))
               (case side2 => exact (Kd.R_reads' HO293.out).2.1)
               rintro e w46 ⟨v299, rfl, ho0, hb⟩
               refine ⟨_, rfl, ?_⟩
               have n0_ := Aside0.mk (Kd.R_elder' (by (with_reducible repeat (first | apply Kd.R_alloc | apply Kd.R_drewN | apply Kd.R_drew)); exact HO293.out) (Kd.R_base ho0) hb)
               have n1_ := Aside0.mk (Kd.R_lower (Kd.R_new' ho0 (Kd.R_lt (by (with_reducible repeat (first | apply Kd.R_alloc | apply Kd.R_drewN | apply Kd.R_drew)); exact HO293.out))) (below_size (by repeat (first | (with_reducible first | exact HB.out | apply below_alloc | apply pw_below_drewN | apply below_drew1 | refine below_set ?_ GE287.out | refine below_set ?_ GE288.out) | exact HB.out))))
               have n2_ := Aside0.mk (blkb hb BK287.out)
               have n3_ := Aside0.mk (blkb hb BK288.out)
               have n4_ := Aside0.mk (below_step (by repeat (first | (with_reducible first | exact HB.out | apply below_alloc | apply pw_below_drewN | apply below_drew1 | refine below_set ?_ GE287.out | refine below_set ?_ GE288.out) | exact HB.out)) hb)
               clear HO293
               clear BK287
               clear BK288
               clear HB
               have HO293 := n0_
               have HO300 := n1_
               have BK287 := n2_
               have BK288 := n3_
               have HB := n4_
               clear n0_ n1_ n2_ n3_ n4_
               (try clear hb)
               (try clear hb2)
               (try clear hk)
               (try clear hi)
               (try clear ho0)
               refine hK.out _ _ ⟨(blk_cell BK287.out 0).trans rfl, (blk_cell BK287.out 1).trans rfl, (blk_cell BK288.out 0).trans rfl, (blk_cell BK288.out 1).trans rfl⟩ (fun hHeld => ?_)
               clear hK K
               refine norm_ (a' := ?_) ?_ ?_
               rotate_left
               ·show Act.put _ (some 22) _ = _
                simp only [Act.put, List.setIfInBounds_toArray, List.set_cons_zero, List.set_cons_succ, i64_w, i32_w]
                rfl
               refine one_ (i := 5) (N := some 6) #[true, true, true, true, true, true, false] rfl rfl (by kernel_rfl) (by decide) (fun K hK => ?_)
               refine box_step ?hg (N := 6) ?hd (cs := #[.int .i64 0, .int .i64 0, .slice none 0 0]) (t := 32) ?hr ?_; (case hd => rfl); (case hg => rfl); (case hr => first | (go_simp; done) | (go_simp; rfl))
               intro gb301 hg w47 hbox hb
               have n0_ := Aside0.mk (Kd.R_below (by (with_reducible repeat (first | apply Kd.R_alloc | apply Kd.R_drewN | apply Kd.R_drew)); exact HO293.out) hb)
               have n1_ := Aside0.mk (Kd.R_below (by (with_reducible repeat (first | apply Kd.R_alloc | apply Kd.R_drewN | apply Kd.R_drew)); exact HO300.out) hb)
               have n2_ := Aside0.mk (blkb hb BK287.out)
               have n3_ := Aside0.mk (blkb hb BK288.out)
               have n4_ := Aside0.mk (below_step (by repeat (first | (with_reducible first | exact HB.out | apply below_alloc | apply pw_below_drewN | apply below_drew1 | refine below_set ?_ GE287.out | refine below_set ?_ GE288.out) | exact HB.out)) hb)
               have n5_ := Aside0.mk (hbox)
               have n6_ := Aside0.mk ((by rw [hg]; exact (below_size (by repeat (first | (with_reducible first | exact HB.out | apply below_alloc | apply pw_below_drewN | apply below_drew1 | refine below_set ?_ GE287.out | refine below_set ?_ GE288.out) | exact HB.out))) : w.heap.size ≤ gb301))
               have n7_ := Aside0.mk ((by rw [hg]; exact (below_size (by repeat (first | (with_reducible first | exact HB.out | apply below_alloc | apply pw_below_drewN | apply below_drew1 | refine below_set ?_ GE287.out | refine below_set ?_ GE288.out) | exact HB.out))) : w.heap.size ≤ gb301))
               have n8_ := Aside0.mk ((blkn hg BK287.out))
               have n9_ := Aside0.mk ((blkm hg BK287.out))
               have n10_ := Aside0.mk ((blkn hg BK288.out))
               have n11_ := Aside0.mk ((blkm hg BK288.out))
               clear HO293
               clear HO300
               clear BK287
               clear BK288
               clear HB
               have HO293 := n0_
               have HO300 := n1_
               have BK287 := n2_
               have BK288 := n3_
               have HB := n4_
               have BK301 := n5_
               have GW301 := n6_
               have GE301 := n7_
               have NB287_301 := n8_
               have NB301_287 := n9_
               have NB288_301 := n10_
               have NB301_288 := n11_
               clear n0_ n1_ n2_ n3_ n4_ n5_ n6_ n7_ n8_ n9_ n10_ n11_
               clear hb hbox hg
               refine hK.out _ _ ⟨(blk_cell BK287.out 0).trans rfl, (blk_cell BK287.out 1).trans rfl, (blk_cell BK288.out 0).trans rfl, (blk_cell BK288.out 1).trans rfl⟩ (fun hHeld => ?_)
               clear hK K
               refine norm_ (a' := ?_) ?_ ?_
               rotate_left
               ·show Act.put _ (some 6) _ = _
                simp only [Act.put, List.setIfInBounds_toArray, List.set_cons_zero, List.set_cons_succ, i64_w, i32_w]
                rfl
               exact norm_ (by simp only [putAll, Act.put, List.setIfInBounds_toArray, List.set_cons_zero, List.set_cons_succ]) (hCont (.slice Ao45 t291.length co45, v299, gb301) _ ⟨hHeld, (by (with_reducible repeat (first | apply Kd.R_alloc | apply Kd.R_drewN | apply Kd.R_drew)); exact Kd.R_mono HO293.out (fun _ hk => hk.2)), (by (with_reducible repeat (first | apply Kd.R_alloc | apply Kd.R_drewN | apply Kd.R_drew)); exact Kd.R_mono HO300.out (fun _ hk => hk.2)), (by (with_reducible repeat (first | refine blk_drewN ?_ _ | refine blk_drew ?_ | refine blk_alloc ?_ _)); exact BK287.out), (by (with_reducible repeat (first | refine blk_drewN ?_ _ | refine blk_drew ?_ | refine blk_alloc ?_ _)); exact BK288.out), (by (with_reducible repeat (first | refine blk_drewN ?_ _ | refine blk_drew ?_ | refine blk_alloc ?_ _)); exact BK301.out), GW301.out, GE301.out, NB287_301.out, NB301_287.out, NB288_301.out, NB301_288.out, (by repeat (first | (with_reducible first | exact HB.out | apply below_alloc | apply pw_below_drewN | apply below_drew1 | refine below_set ?_ GE287.out | refine below_set ?_ GE288.out | refine below_set ?_ GE301.out) | exact HB.out))⟩)
              ·skip
               refine box_step ?hg (N := 6) ?hd (cs := #[.int .i64 0, .int .i64 0, .slice none 0 0]) (t := 32) ?hr ?_; (case hd => rfl); (case hg => rfl); (case hr => first | (go_simp; done) | (go_simp; rfl))
               intro gb301 hg w45 hbox hb
               have n0_ := Aside0.mk (Kd.R_below (by (with_reducible repeat (first | apply Kd.R_alloc | apply Kd.R_drewN | apply Kd.R_drew)); exact HO293.out) hb)
               have n1_ := Aside0.mk (blkb hb BK287.out)
               have n2_ := Aside0.mk (blkb hb BK288.out)
               have n3_ := Aside0.mk (below_step (by repeat (first | (with_reducible first | exact HB.out | apply below_alloc | apply pw_below_drewN | apply below_drew1 | refine below_set ?_ GE287.out | refine below_set ?_ GE288.out) | exact HB.out)) hb)
               have n4_ := Aside0.mk (hbox)
               have n5_ := Aside0.mk ((by rw [hg]; exact (below_size (by repeat (first | (with_reducible first | exact HB.out | apply below_alloc | apply pw_below_drewN | apply below_drew1 | refine below_set ?_ GE287.out | refine below_set ?_ GE288.out) | exact HB.out))) : w.heap.size ≤ gb301))
               have n6_ := Aside0.mk ((by rw [hg]; exact (below_size (by repeat (first | (with_reducible first | exact HB.out | apply below_alloc | apply pw_below_drewN | apply below_drew1 | refine below_set ?_ GE287.out | refine below_set ?_ GE288.out) | exact HB.out))) : w.heap.size ≤ gb301))
               have n7_ := Aside0.mk ((blkn hg BK287.out))
               have n8_ := Aside0.mk ((blkm hg BK287.out))
               have n9_ := Aside0.mk ((blkn hg BK288.out))
               have n10_ := Aside0.mk ((blkm hg BK288.out))
               clear HO293
               clear BK287
               clear BK288
               clear HB
               have HO293 := n0_
               have BK287 := n1_
               have BK288 := n2_
               have HB := n3_
               have BK301 := n4_
               have GW301 := n5_
               have GE301 := n6_
               have NB287_301 := n7_
               have NB301_287 := n8_
               have NB288_301 := n9_
               have NB301_288 := n10_
               clear n0_ n1_ n2_ n3_ n4_ n5_ n6_ n7_ n8_ n9_ n10_
               clear hb hbox hg
               obtain ⟨Ao46, co46, eo46⟩ := Kd.R_slice HO293.out
               (first | subst eo46 | (injection eo46 with f1_ f2_ f3_; have f4_ := f1_.symm; have f5_ := f3_.symm; clear f1_ f2_ f3_; subst f4_; subst f5_))
               refine hK.out _ _ ⟨(blk_cell BK287.out 0).trans rfl, (blk_cell BK287.out 1).trans rfl, (blk_cell BK288.out 0).trans rfl, (blk_cell BK288.out 1).trans rfl⟩ (fun hHeld => ?_)
               clear hK K
               refine norm_ (a' := ?_) ?_ ?_
               rotate_left
               ·show Act.put _ (some 6) _ = _
                simp only [Act.put, List.setIfInBounds_toArray, List.set_cons_zero, List.set_cons_succ, i64_w, i32_w]
                rfl
               refine one_ (i := 4) (N := some 22) #[true, true, true, true, true, true, false] rfl rfl (by kernel_rfl) (by decide) (fun K hK => ?_)
               refine goes_ Try.func10 (by kernel_rfl) rfl #[.agg #[.int .i64 t290, .slice Ao46 t291.length co46], .agg #[.int .i64 t294, .int .i64 t295]] (by rfl) rfl rfl (by (try simp only [List.map_toArray, List.map_cons, List.map_nil]); first | done | rfl | (simp only [List.length_drop, List.length_take]; rfl)) ?_
               with_reducible refine (spec_PutPair.calls k t290 _ _ t291 t294 t295 t296 t297 t298 _ ?side1 ?side2 A12.out).mono ?_
               (case side1 => repeat (first | exact (Kd.R_reads' HO293.out).2.2 | (with_reducible refine Kd.C_alloc ?_ _) | (with_reducible refine Kd.C_drewN ?_ _) | (with_reducible refine Kd.C_drew ?_)))
               (case side2 => exact (Kd.R_reads' HO293.out).2.1)
               rintro e w47 ⟨v299, rfl, ho0, hb⟩
               refine ⟨_, rfl, ?_⟩
               have n0_ := Aside0.mk (Kd.R_elder' (by (with_reducible repeat (first | apply Kd.R_alloc | apply Kd.R_drewN | apply Kd.R_drew)); exact HO293.out) (Kd.R_base ho0) hb)
               have n1_ := Aside0.mk (Kd.R_lower (Kd.R_new' ho0 (Kd.R_lt (by (with_reducible repeat (first | apply Kd.R_alloc | apply Kd.R_drewN | apply Kd.R_drew)); exact HO293.out))) (below_size (by repeat (first | (with_reducible first | exact HB.out | apply below_alloc | apply pw_below_drewN | apply below_drew1 | refine below_set ?_ GE287.out | refine below_set ?_ GE288.out | refine below_set ?_ GE301.out) | exact HB.out))))
               have n2_ := Aside0.mk (blkb hb BK287.out)
               have n3_ := Aside0.mk (blkb hb BK288.out)
               have n4_ := Aside0.mk (blkb hb BK301.out)
               have n5_ := Aside0.mk (below_step (by repeat (first | (with_reducible first | exact HB.out | apply below_alloc | apply pw_below_drewN | apply below_drew1 | refine below_set ?_ GE287.out | refine below_set ?_ GE288.out | refine below_set ?_ GE301.out) | exact HB.out)) hb)
               clear HO293
               clear BK287
               clear BK288
               clear BK301
               clear HB
               have HO293 := n0_
               have HO300 := n1_
               have BK287 := n2_
               have BK288 := n3_
               have BK301 := n4_
               have HB := n5_
               clear n0_ n1_ n2_ n3_ n4_ n5_
               (try clear hb)
               (try clear hb2)
               (try clear hk)
               (try clear hi)
               (try clear ho0)
               refine hK.out _ _ ⟨(blk_cell BK287.out 0).trans rfl, (blk_cell BK287.out 1).trans rfl, (blk_cell BK288.out 0).trans rfl, (blk_cell BK288.out 1).trans rfl⟩ (fun hHeld => ?_)
               clear hK K
               refine norm_ (a' := ?_) ?_ ?_
               rotate_left
               ·show Act.put _ (some 22) _ = _
                simp only [Act.put, List.setIfInBounds_toArray, List.set_cons_zero, List.set_cons_succ, i64_w, i32_w]
                rfl
               exact norm_ (by simp only [putAll, Act.put, List.setIfInBounds_toArray, List.set_cons_zero, List.set_cons_succ]) (hCont (.slice Ao46 t291.length co46, v299, gb301) _ ⟨hHeld, (by (with_reducible repeat (first | apply Kd.R_alloc | apply Kd.R_drewN | apply Kd.R_drew)); exact Kd.R_mono HO293.out (fun _ hk => hk.2)), (by (with_reducible repeat (first | apply Kd.R_alloc | apply Kd.R_drewN | apply Kd.R_drew)); exact Kd.R_mono HO300.out (fun _ hk => hk.2)), (by (with_reducible repeat (first | refine blk_drewN ?_ _ | refine blk_drew ?_ | refine blk_alloc ?_ _)); exact BK287.out), (by (with_reducible repeat (first | refine blk_drewN ?_ _ | refine blk_drew ?_ | refine blk_alloc ?_ _)); exact BK288.out), (by (with_reducible repeat (first | refine blk_drewN ?_ _ | refine blk_drew ?_ | refine blk_alloc ?_ _)); exact BK301.out), GW301.out, GE301.out, NB287_301.out, NB301_287.out, NB288_301.out, NB301_288.out, (by repeat (first | (with_reducible first | exact HB.out | apply below_alloc | apply pw_below_drewN | apply below_drew1 | refine below_set ?_ GE287.out | refine below_set ?_ GE288.out | refine below_set ?_ GE301.out) | exact HB.out))⟩)
             ·skip
              refine box_step ?hg (N := 6) ?hd (cs := #[.int .i64 0, .int .i64 0, .slice none 0 0]) (t := 32) ?hr ?_; (case hd => rfl); (case hg => rfl); (case hr => first | (go_simp; done) | (go_simp; rfl))
              intro gb301 hg w44 hbox hb
              have n0_ := Aside0.mk (Kd.R_below (by (with_reducible repeat (first | apply Kd.R_alloc | apply Kd.R_drewN | apply Kd.R_drew)); exact HO293.out) hb)
              have n1_ := Aside0.mk (blkb hb BK287.out)
              have n2_ := Aside0.mk (blkb hb BK288.out)
              have n3_ := Aside0.mk (below_step (by repeat (first | (with_reducible first | exact HB.out | apply below_alloc | apply pw_below_drewN | apply below_drew1 | refine below_set ?_ GE287.out | refine below_set ?_ GE288.out) | exact HB.out)) hb)
              have n4_ := Aside0.mk (hbox)
              have n5_ := Aside0.mk ((by rw [hg]; exact (below_size (by repeat (first | (with_reducible first | exact HB.out | apply below_alloc | apply pw_below_drewN | apply below_drew1 | refine below_set ?_ GE287.out | refine below_set ?_ GE288.out) | exact HB.out))) : w.heap.size ≤ gb301))
              have n6_ := Aside0.mk ((by rw [hg]; exact (below_size (by repeat (first | (with_reducible first | exact HB.out | apply below_alloc | apply pw_below_drewN | apply below_drew1 | refine below_set ?_ GE287.out | refine below_set ?_ GE288.out) | exact HB.out))) : w.heap.size ≤ gb301))
              have n7_ := Aside0.mk ((blkn hg BK287.out))
              have n8_ := Aside0.mk ((blkm hg BK287.out))
              have n9_ := Aside0.mk ((blkn hg BK288.out))
              have n10_ := Aside0.mk ((blkm hg BK288.out))
              clear HO293
              clear BK287
              clear BK288
              clear HB
              have HO293 := n0_
              have BK287 := n1_
              have BK288 := n2_
              have HB := n3_
              have BK301 := n4_
              have GW301 := n5_
              have GE301 := n6_
              have NB287_301 := n7_
              have NB301_287 := n8_
              have NB288_301 := n9_
              have NB301_288 := n10_
              clear n0_ n1_ n2_ n3_ n4_ n5_ n6_ n7_ n8_ n9_ n10_
              clear hb hbox hg
              refine hK.out _ _ ⟨(blk_cell BK287.out 0).trans rfl, (blk_cell BK287.out 1).trans rfl, (blk_cell BK288.out 0).trans rfl, (blk_cell BK288.out 1).trans rfl⟩ (fun hHeld => ?_)
              clear hK K
              refine norm_ (a' := ?_) ?_ ?_
              rotate_left
              ·show Act.put _ (some 6) _ = _
               simp only [Act.put, List.setIfInBounds_toArray, List.set_cons_zero, List.set_cons_succ, i64_w, i32_w]
               rfl
              refine one_ (i := 3) (N := some 21) #[true, true, true, true, false, true, false] rfl rfl (by kernel_rfl) (by decide) (fun K hK => ?_)
              refine goes_ Try.func17 (by kernel_rfl) rfl #[.agg #[.int .i64 a1_0, .int .i64 a1_1]] (by rfl) rfl rfl (by (try simp only [List.map_toArray, List.map_cons, List.map_nil]); first | done | rfl | (simp only [List.length_drop, List.length_take]; rfl)) ?_
              with_reducible refine (laws_toPair.calls a1_0 a1_1 t294 t295 _ A11.out).mono ?_
              rintro e w45 ⟨rfl, hb⟩
              refine ⟨_, rfl, ?_⟩
              have n0_ := Aside0.mk (Kd.R_below (by (with_reducible repeat (first | apply Kd.R_alloc | apply Kd.R_drewN | apply Kd.R_drew)); exact HO293.out) hb)
              have n1_ := Aside0.mk (blkb hb BK287.out)
              have n2_ := Aside0.mk (blkb hb BK288.out)
              have n3_ := Aside0.mk (blkb hb BK301.out)
              have n4_ := Aside0.mk (below_step (by repeat (first | (with_reducible first | exact HB.out | apply below_alloc | apply pw_below_drewN | apply below_drew1 | refine below_set ?_ GE287.out | refine below_set ?_ GE288.out | refine below_set ?_ GE301.out) | exact HB.out)) hb)
              clear HO293
              clear BK287
              clear BK288
              clear BK301
              clear HB
              have HO293 := n0_
              have BK287 := n1_
              have BK288 := n2_
              have BK301 := n3_
              have HB := n4_
              clear n0_ n1_ n2_ n3_ n4_
              (try clear hb)
              (try clear hb2)
              (try clear hk)
              (try clear hi)
              obtain ⟨Ao46, co46, eo46⟩ := Kd.R_slice HO293.out
              (first | subst eo46 | (injection eo46 with f1_ f2_ f3_; have f4_ := f1_.symm; have f5_ := f3_.symm; clear f1_ f2_ f3_; subst f4_; subst f5_))
              refine hK.out _ _ ⟨(blk_cell BK287.out 0).trans rfl, (blk_cell BK287.out 1).trans rfl, (blk_cell BK288.out 0).trans rfl, (blk_cell BK288.out 1).trans rfl⟩ (fun hHeld => ?_)
              clear hK K
              refine norm_ (a' := ?_) ?_ ?_
              rotate_left
              ·show Act.put _ (some 21) _ = _
               simp only [Act.put, List.setIfInBounds_toArray, List.set_cons_zero, List.set_cons_succ, i64_w, i32_w]
               rfl
              refine one_ (i := 4) (N := some 22) #[true, true, true, true, true, true, false] rfl rfl (by kernel_rfl) (by decide) (fun K hK => ?_)
              refine goes_ Try.func10 (by kernel_rfl) rfl #[.agg #[.int .i64 t290, .slice Ao46 t291.length co46], .agg #[.int .i64 t294, .int .i64 t295]] (by rfl) rfl rfl (by (try simp only [List.map_toArray, List.map_cons, List.map_nil]); first | done | rfl | (simp only [List.length_drop, List.length_take]; rfl)) ?_
              with_reducible refine (spec_PutPair.calls k t290 _ _ t291 t294 t295 t296 t297 t298 _ ?side1 ?side2 A12.out).mono ?_
              (case side1 => repeat (first | exact (Kd.R_reads' HO293.out).2.2 | (with_reducible refine Kd.C_alloc ?_ _) | (with_reducible refine Kd.C_drewN ?_ _) | (with_reducible refine Kd.C_drew ?_)))
              (case side2 => exact (Kd.R_reads' HO293.out).2.1)
              rintro e w47 ⟨v299, rfl, ho0, hb⟩
              refine ⟨_, rfl, ?_⟩
              have n0_ := Aside0.mk (Kd.R_elder' (by (with_reducible repeat (first | apply Kd.R_alloc | apply Kd.R_drewN | apply Kd.R_drew)); exact HO293.out) (Kd.R_base ho0) hb)
              have n1_ := Aside0.mk (Kd.R_lower (Kd.R_new' ho0 (Kd.R_lt (by (with_reducible repeat (first | apply Kd.R_alloc | apply Kd.R_drewN | apply Kd.R_drew)); exact HO293.out))) (below_size (by repeat (first | (with_reducible first | exact HB.out | apply below_alloc | apply pw_below_drewN | apply below_drew1 | refine below_set ?_ GE287.out | refine below_set ?_ GE288.out | refine below_set ?_ GE301.out) | exact HB.out))))
              have n2_ := Aside0.mk (blkb hb BK287.out)
              have n3_ := Aside0.mk (blkb hb BK288.out)
              have n4_ := Aside0.mk (blkb hb BK301.out)
              have n5_ := Aside0.mk (below_step (by repeat (first | (with_reducible first | exact HB.out | apply below_alloc | apply pw_below_drewN | apply below_drew1 | refine below_set ?_ GE287.out | refine below_set ?_ GE288.out | refine below_set ?_ GE301.out) | exact HB.out)) hb)
              clear HO293
              clear BK287
              clear BK288
              clear BK301
              clear HB
              have HO293 := n0_
              have HO300 := n1_
              have BK287 := n2_
              have BK288 := n3_
              have BK301 := n4_
              have HB := n5_
              clear n0_ n1_ n2_ n3_ n4_ n5_
              (try clear hb)
              (try clear hb2)
              (try clear hk)
              (try clear hi)
              (try clear ho0)
              refine hK.out _ _ ⟨(blk_cell BK287.out 0).trans rfl, (blk_cell BK287.out 1).trans rfl, (blk_cell BK288.out 0).trans rfl, (blk_cell BK288.out 1).trans rfl⟩ (fun hHeld => ?_)
              clear hK K
              refine norm_ (a' := ?_) ?_ ?_
              rotate_left
              ·show Act.put _ (some 22) _ = _
               simp only [Act.put, List.setIfInBounds_toArray, List.set_cons_zero, List.set_cons_succ, i64_w, i32_w]
               rfl
              exact norm_ (by simp only [putAll, Act.put, List.setIfInBounds_toArray, List.set_cons_zero, List.set_cons_succ]) (hCont (.slice Ao46 t291.length co46, v299, gb301) _ ⟨hHeld, (by (with_reducible repeat (first | apply Kd.R_alloc | apply Kd.R_drewN | apply Kd.R_drew)); exact Kd.R_mono HO293.out (fun _ hk => hk.2)), (by (with_reducible repeat (first | apply Kd.R_alloc | apply Kd.R_drewN | apply Kd.R_drew)); exact Kd.R_mono HO300.out (fun _ hk => hk.2)), (by (with_reducible repeat (first | refine blk_drewN ?_ _ | refine blk_drew ?_ | refine blk_alloc ?_ _)); exact BK287.out), (by (with_reducible repeat (first | refine blk_drewN ?_ _ | refine blk_drew ?_ | refine blk_alloc ?_ _)); exact BK288.out), (by (with_reducible repeat (first | refine blk_drewN ?_ _ | refine blk_drew ?_ | refine blk_alloc ?_ _)); exact BK301.out), GW301.out, GE301.out, NB287_301.out, NB301_287.out, NB288_301.out, NB301_288.out, (by repeat (first | (with_reducible first | exact HB.out | apply below_alloc | apply pw_below_drewN | apply below_drew1 | refine below_set ?_ GE287.out | refine below_set ?_ GE288.out | refine below_set ?_ GE301.out) | exact HB.out))⟩)
            ·skip
             refine box_step ?hg (N := 6) ?hd (cs := #[.int .i64 0, .int .i64 0, .slice none 0 0]) (t := 32) ?hr ?_; (case hd => rfl); (case hg => rfl); (case hr => first | (go_simp; done) | (go_simp; rfl))
             intro gb301 hg w43 hbox hb
             have n0_ := Aside0.mk (blkb hb BK287.out)
             have n1_ := Aside0.mk (blkb hb BK288.out)
             have n2_ := Aside0.mk (below_step (by repeat (first | (with_reducible first | exact HB.out | apply below_alloc | apply pw_below_drewN | apply below_drew1 | refine below_set ?_ GE287.out | refine below_set ?_ GE288.out) | exact HB.out)) hb)
             have n3_ := Aside0.mk (hbox)
             have n4_ := Aside0.mk ((by rw [hg]; exact (below_size (by repeat (first | (with_reducible first | exact HB.out | apply below_alloc | apply pw_below_drewN | apply below_drew1 | refine below_set ?_ GE287.out | refine below_set ?_ GE288.out) | exact HB.out))) : w.heap.size ≤ gb301))
             have n5_ := Aside0.mk ((by rw [hg]; exact (below_size (by repeat (first | (with_reducible first | exact HB.out | apply below_alloc | apply pw_below_drewN | apply below_drew1 | refine below_set ?_ GE287.out | refine below_set ?_ GE288.out) | exact HB.out))) : w.heap.size ≤ gb301))
             have n6_ := Aside0.mk ((blkn hg BK287.out))
             have n7_ := Aside0.mk ((blkm hg BK287.out))
             have n8_ := Aside0.mk ((blkn hg BK288.out))
             have n9_ := Aside0.mk ((blkm hg BK288.out))
             clear BK287
             clear BK288
             clear HB
             have BK287 := n0_
             have BK288 := n1_
             have HB := n2_
             have BK301 := n3_
             have GW301 := n4_
             have GE301 := n5_
             have NB287_301 := n6_
             have NB301_287 := n7_
             have NB288_301 := n8_
             have NB301_288 := n9_
             clear n0_ n1_ n2_ n3_ n4_ n5_ n6_ n7_ n8_ n9_
             clear hb hbox hg
             refine hK.out _ _ ⟨(blk_cell BK287.out 0).trans rfl, (blk_cell BK287.out 1).trans rfl, (blk_cell BK288.out 0).trans rfl, (blk_cell BK288.out 1).trans rfl⟩ (fun hHeld => ?_)
             clear hK K
             refine norm_ (a' := ?_) ?_ ?_
             rotate_left
             ·show Act.put _ (some 6) _ = _
              simp only [Act.put, List.setIfInBounds_toArray, List.set_cons_zero, List.set_cons_succ, i64_w, i32_w]
              rfl
             refine one_ (i := 1) (N := some 19) #[true, true, true, false, false, true, false] rfl rfl (by kernel_rfl) (by decide) (fun K hK => ?_)
             refine goes_ Try.func16 (by kernel_rfl) rfl #[.agg #[.int .i64 a0_0, .slice A0_1 l0_1.length c0_1]] (by rfl) rfl rfl (by (try simp only [List.map_toArray, List.map_cons, List.map_nil]); first | done | rfl | (simp only [List.length_drop, List.length_take]; rfl)) ?_
             with_reducible refine (laws_toFont.calls k a0_0 _ _ l0_1 t290 t291 _ ?side1 ?side2 A10.out).mono ?_
             (case side1 => repeat (first | exact (Kd.C_below HR0_1.out HB.out) | (with_reducible refine Kd.C_alloc ?_ _) | (with_reducible refine Kd.C_drewN ?_ _) | (with_reducible refine Kd.C_drew ?_)))
             (case side2 => exact HC0_1.out)
             rintro e w44 ⟨v292, rfl, ho0, hb⟩
             refine ⟨_, rfl, ?_⟩
             have n0_ := Aside0.mk (Kd.R_lower ho0 (below_size (by repeat (first | (with_reducible first | exact HB.out | apply below_alloc | apply pw_below_drewN | apply below_drew1 | refine below_set ?_ GE287.out | refine below_set ?_ GE288.out | refine below_set ?_ GE301.out) | exact HB.out))))
             have n1_ := Aside0.mk (blkb hb BK287.out)
             have n2_ := Aside0.mk (blkb hb BK288.out)
             have n3_ := Aside0.mk (blkb hb BK301.out)
             have n4_ := Aside0.mk (below_step (by repeat (first | (with_reducible first | exact HB.out | apply below_alloc | apply pw_below_drewN | apply below_drew1 | refine below_set ?_ GE287.out | refine below_set ?_ GE288.out | refine below_set ?_ GE301.out) | exact HB.out)) hb)
             clear BK287
             clear BK288
             clear BK301
             clear HB
             have HO293 := n0_
             have BK287 := n1_
             have BK288 := n2_
             have BK301 := n3_
             have HB := n4_
             clear n0_ n1_ n2_ n3_ n4_
             (try clear hb)
             (try clear hb2)
             (try clear hk)
             (try clear hi)
             (try clear ho0)
             refine hK.out _ _ ⟨(blk_cell BK287.out 0).trans rfl, (blk_cell BK287.out 1).trans rfl, (blk_cell BK288.out 0).trans rfl, (blk_cell BK288.out 1).trans rfl⟩ (fun hHeld => ?_)
             clear hK K
             refine norm_ (a' := ?_) ?_ ?_
             rotate_left
             ·show Act.put _ (some 19) _ = _
              simp only [Act.put, List.setIfInBounds_toArray, List.set_cons_zero, List.set_cons_succ, i64_w, i32_w]
              rfl
             refine one_ (i := 3) (N := some 21) #[true, true, true, true, false, true, false] rfl rfl (by kernel_rfl) (by decide) (fun K hK => ?_)
             refine goes_ Try.func17 (by kernel_rfl) rfl #[.agg #[.int .i64 a1_0, .int .i64 a1_1]] (by rfl) rfl rfl (by (try simp only [List.map_toArray, List.map_cons, List.map_nil]); first | done | rfl | (simp only [List.length_drop, List.length_take]; rfl)) ?_
             with_reducible refine (laws_toPair.calls a1_0 a1_1 t294 t295 _ A11.out).mono ?_
             rintro e w45 ⟨rfl, hb⟩
             refine ⟨_, rfl, ?_⟩
             have n0_ := Aside0.mk (Kd.R_below (by (with_reducible repeat (first | apply Kd.R_alloc | apply Kd.R_drewN | apply Kd.R_drew)); exact HO293.out) hb)
             have n1_ := Aside0.mk (blkb hb BK287.out)
             have n2_ := Aside0.mk (blkb hb BK288.out)
             have n3_ := Aside0.mk (blkb hb BK301.out)
             have n4_ := Aside0.mk (below_step (by repeat (first | (with_reducible first | exact HB.out | apply below_alloc | apply pw_below_drewN | apply below_drew1 | refine below_set ?_ GE287.out | refine below_set ?_ GE288.out | refine below_set ?_ GE301.out) | exact HB.out)) hb)
             clear HO293
             clear BK287
             clear BK288
             clear BK301
             clear HB
             have HO293 := n0_
             have BK287 := n1_
             have BK288 := n2_
             have BK301 := n3_
             have HB := n4_
             clear n0_ n1_ n2_ n3_ n4_
             (try clear hb)
             (try clear hb2)
             (try clear hk)
             (try clear hi)
             obtain ⟨Ao46, co46, eo46⟩ := Kd.R_slice HO293.out
             (first | subst eo46 | (injection eo46 with f1_ f2_ f3_; have f4_ := f1_.symm; have f5_ := f3_.symm; clear f1_ f2_ f3_; subst f4_; subst f5_))
             refine hK.out _ _ ⟨(blk_cell BK287.out 0).trans rfl, (blk_cell BK287.out 1).trans rfl, (blk_cell BK288.out 0).trans rfl, (blk_cell BK288.out 1).trans rfl⟩ (fun hHeld => ?_)
             clear hK K
             refine norm_ (a' := ?_) ?_ ?_
             rotate_left
             ·show Act.put _ (some 21) _ = _
              simp only [Act.put, List.setIfInBounds_toArray, List.set_cons_zero, List.set_cons_succ, i64_w, i32_w]
              rfl
             refine one_ (i := 4) (N := some 22) #[true, true, true, true, true, true, false] rfl rfl (by kernel_rfl) (by decide) (fun K hK => ?_)
             refine goes_ Try.func10 (by kernel_rfl) rfl #[.agg #[.int .i64 t290, .slice Ao46 t291.length co46], .agg #[.int .i64 t294, .int .i64 t295]] (by rfl) rfl rfl (by (try simp only [List.map_toArray, List.map_cons, List.map_nil]); first | done | rfl | (simp only [List.length_drop, List.length_take]; rfl)) ?_
             with_reducible refine (spec_PutPair.calls k t290 _ _ t291 t294 t295 t296 t297 t298 _ ?side1 ?side2 A12.out).mono ?_
             (case side1 => repeat (first | exact (Kd.R_reads' HO293.out).2.2 | (with_reducible refine Kd.C_alloc ?_ _) | (with_reducible refine Kd.C_drewN ?_ _) | (with_reducible refine Kd.C_drew ?_)))
             (case side2 => exact (Kd.R_reads' HO293.out).2.1)
             rintro e w47 ⟨v299, rfl, ho0, hb⟩
             refine ⟨_, rfl, ?_⟩
             have n0_ := Aside0.mk (Kd.R_elder' (by (with_reducible repeat (first | apply Kd.R_alloc | apply Kd.R_drewN | apply Kd.R_drew)); exact HO293.out) (Kd.R_base ho0) hb)
             have n1_ := Aside0.mk (Kd.R_lower (Kd.R_new' ho0 (Kd.R_lt (by (with_reducible repeat (first | apply Kd.R_alloc | apply Kd.R_drewN | apply Kd.R_drew)); exact HO293.out))) (below_size (by repeat (first | (with_reducible first | exact HB.out | apply below_alloc | apply pw_below_drewN | apply below_drew1 | refine below_set ?_ GE287.out | refine below_set ?_ GE288.out | refine below_set ?_ GE301.out) | exact HB.out))))
             have n2_ := Aside0.mk (blkb hb BK287.out)
             have n3_ := Aside0.mk (blkb hb BK288.out)
             have n4_ := Aside0.mk (blkb hb BK301.out)
             have n5_ := Aside0.mk (below_step (by repeat (first | (with_reducible first | exact HB.out | apply below_alloc | apply pw_below_drewN | apply below_drew1 | refine below_set ?_ GE287.out | refine below_set ?_ GE288.out | refine below_set ?_ GE301.out) | exact HB.out)) hb)
             clear HO293
             clear BK287
             clear BK288
             clear BK301
             clear HB
             have HO293 := n0_
             have HO300 := n1_
             have BK287 := n2_
             have BK288 := n3_
             have BK301 := n4_
             have HB := n5_
             clear n0_ n1_ n2_ n3_ n4_ n5_
             (try clear hb)
             (try clear hb2)
             (try clear hk)
             (try clear hi)
             (try clear ho0)
             refine hK.out _ _ ⟨(blk_cell BK287.out 0).trans rfl, (blk_cell BK287.out 1).trans rfl, (blk_cell BK288.out 0).trans rfl, (blk_cell BK288.out 1).trans rfl⟩ (fun hHeld => ?_)
             clear hK K
             refine norm_ (a' := ?_) ?_ ?_
             rotate_left
             ·show Act.put _ (some 22) _ = _
              simp only [Act.put, List.setIfInBounds_toArray, List.set_cons_zero, List.set_cons_succ, i64_w, i32_w]
              rfl
             exact norm_ (by simp only [putAll, Act.put, List.setIfInBounds_toArray, List.set_cons_zero, List.set_cons_succ]) (hCont (.slice Ao46 t291.length co46, v299, gb301) _ ⟨hHeld, (by (with_reducible repeat (first | apply Kd.R_alloc | apply Kd.R_drewN | apply Kd.R_drew)); exact Kd.R_mono HO293.out (fun _ hk => hk.2)), (by (with_reducible repeat (first | apply Kd.R_alloc | apply Kd.R_drewN | apply Kd.R_drew)); exact Kd.R_mono HO300.out (fun _ hk => hk.2)), (by (with_reducible repeat (first | refine blk_drewN ?_ _ | refine blk_drew ?_ | refine blk_alloc ?_ _)); exact BK287.out), (by (with_reducible repeat (first | refine blk_drewN ?_ _ | refine blk_drew ?_ | refine blk_alloc ?_ _)); exact BK288.out), (by (with_reducible repeat (first | refine blk_drewN ?_ _ | refine blk_drew ?_ | refine blk_alloc ?_ _)); exact BK301.out), GW301.out, GE301.out, NB287_301.out, NB301_287.out, NB288_301.out, NB301_288.out, (by repeat (first | (with_reducible first | exact HB.out | apply below_alloc | apply pw_below_drewN | apply below_drew1 | refine below_set ?_ GE287.out | refine below_set ?_ GE288.out | refine below_set ?_ GE301.out) | exact HB.out))⟩)
           rintro ⟨v292, v299, gb301⟩ w48 ⟨hS_, h0_, h1_, h2_, h3_, h4_, h5_, h6_, h7_, h8_, h9_, h10_, h11_⟩
           have n0_ : Aside0 (Kd.R k28 28 w48 w.heap.size (fun k_ => some k_ ≠ (v299 : Value).ownBlock) v292 t291) := ⟨h0_⟩
           have n1_ : Aside0 (Kd.R k28 28 w48 w.heap.size (fun k_ => some k_ ≠ (v292 : Value).ownBlock) v299 t298) := ⟨h1_⟩
           have n2_ : Aside0 (w48.heap[gb287]? = some (.cells #[.int .i64 a0_0, .slice A0_1 l0_1.length c0_1] 41 (0, 0))) := ⟨h2_⟩
           have n3_ : Aside0 (w48.heap[gb288]? = some (.cells #[.int .i64 a1_0, .int .i64 a1_1] 42 (0, 0))) := ⟨h3_⟩
           have n4_ : Aside0 (w48.heap[gb301]? = some (.cells #[.int .i64 0, .int .i64 0, .slice none 0 0] 32 (0, 0))) := ⟨h4_⟩
           have n5_ : Aside0 (w.heap.size ≤ gb301) := ⟨h5_⟩
           have n6_ : Aside0 (w.heap.size ≤ gb301) := ⟨h6_⟩
           have n7_ : Aside0 (gb287 ≠ gb301) := ⟨h7_⟩
           have n8_ : Aside0 (gb301 ≠ gb287) := ⟨h8_⟩
           have n9_ : Aside0 (gb288 ≠ gb301) := ⟨h9_⟩
           have n10_ : Aside0 (gb301 ≠ gb288) := ⟨h10_⟩
           have n11_ : Aside0 (Below w.heap.size w w48) := ⟨h11_⟩
           clear BK287
           clear BK288
           clear HB
           clear h0_ h1_ h2_ h3_ h4_ h5_ h6_ h7_ h8_ h9_ h10_ h11_
           have HO293 := n0_
           have HO300 := n1_
           have BK287 := n2_
           have BK288 := n3_
           have BK301 := n4_
           have GW301 := n5_
           have GE301 := n6_
           have NB287_301 := n7_
           have NB301_287 := n8_
           have NB288_301 := n9_
           have NB301_288 := n10_
           have HB := n11_
           clear n0_ n1_ n2_ n3_ n4_ n5_ n6_ n7_ n8_ n9_ n10_ n11_
           have hHeld : w48.cell? ⟨gb287, 0, none⟩ = some (.int .i64 a0_0) ∧ w48.cell? ⟨gb287, 1, none⟩ = some (.slice A0_1 l0_1.length c0_1) ∧ w48.cell? ⟨gb288, 0, none⟩ = some (.int .i64 a1_0) ∧ w48.cell? ⟨gb288, 1, none⟩ = some (.int .i64 a1_1) := hS_
           obtain ⟨Ao51, co51, eo51⟩ := Kd.R_slice HO300.out
           (first | subst eo51 | (injection eo51 with f1_ f2_ f3_; have f4_ := f1_.symm; have f5_ := f3_.symm; clear f1_ f2_ f3_; subst f4_; subst f5_))
           refine norm_ (a' := ?_) ?_ ?_
           rotate_left
           ·simp only [putAll, Act.put, List.setIfInBounds_toArray, List.set_cons_zero, List.set_cons_succ]
            rfl
           refine one_ (i := 6) (N := none) #[true, true, true, true, true, true, true] rfl rfl (by kernel_rfl) (by decide) (fun K hK => ?_)
           have hs49 : w48.cell? ⟨gb301, 0, none⟩ = some (.int .i64 0) := (blk_cell BK301.out 0).trans rfl
           have hfs49 := blk_frozen BK301.out 0
           have hns49_0 := NB287_301.out
           have hns49_1 := NB288_301.out
           have hms49_0 := NB301_287.out
           have hms49_1 := NB301_288.out
           have hs50 : w48.cell? ⟨gb301, 1, none⟩ = some (.int .i64 0) := (blk_cell BK301.out 1).trans rfl
           have hfs50 := blk_frozen BK301.out 1
           have hns50_0 := NB287_301.out
           have hns50_1 := NB288_301.out
           have hms50_0 := NB301_287.out
           have hms50_1 := NB301_288.out
           have hs52 : w48.cell? ⟨gb301, 2, none⟩ = some (.slice none 0 0) := (blk_cell BK301.out 2).trans rfl
           have hfs52 := blk_frozen BK301.out 2
           have hns52_0 := NB287_301.out
           have hns52_1 := NB288_301.out
           have hms52_0 := NB301_287.out
           have hms52_1 := NB301_288.out
           refine skip_ (w1 := ?_) (by rfl) rfl ?_ ?_
           rotate_left
           ·go_simp
            rfl
           refine hK.out _ _ ⟨((cell_far (p := ⟨gb301, _, none⟩) NB287_301.out _).trans (((cell_far (p := ⟨gb301, _, none⟩) NB287_301.out _).trans (((cell_far (p := ⟨gb301, _, none⟩) NB287_301.out _).trans (hHeld.1)))))), ((cell_far (p := ⟨gb301, _, none⟩) NB287_301.out _).trans (((cell_far (p := ⟨gb301, _, none⟩) NB287_301.out _).trans (((cell_far (p := ⟨gb301, _, none⟩) NB287_301.out _).trans (hHeld.2.1)))))), ((cell_far (p := ⟨gb301, _, none⟩) NB288_301.out _).trans (((cell_far (p := ⟨gb301, _, none⟩) NB288_301.out _).trans (((cell_far (p := ⟨gb301, _, none⟩) NB288_301.out _).trans (hHeld.2.2.1)))))), ((cell_far (p := ⟨gb301, _, none⟩) NB288_301.out _).trans (((cell_far (p := ⟨gb301, _, none⟩) NB288_301.out _).trans (((cell_far (p := ⟨gb301, _, none⟩) NB288_301.out _).trans (hHeld.2.2.2))))))⟩ (fun hHeld => ?_)
           clear hK K
           refine done_ (by kernel_rfl) ?_
           have hnb53 := NB287_301.out
           have hnc53 := NB301_287.out
           have hcz54_0 : w48.cell? ⟨gb287, 0, none⟩ = some (.int .i64 a0_0) := (blk_cell BK287.out 0).trans rfl
           have hcz54_1 : w48.cell? ⟨gb287, 1, none⟩ = some (.slice A0_1 l0_1.length c0_1) := (blk_cell BK287.out 1).trans rfl
           have hfz54_0 := blk_frozen BK287.out 0
           have hfz54_1 := blk_frozen BK287.out 1
           try go_wp2_with (first | ((with_reducible refine gate_callee (f := 16) rfl ?_); refine goesL_ (some 24) rfl rfl Try.func16 (by kernel_rfl) rfl #[.agg #[.int .i64 a0_0, .slice A0_1 l0_1.length c0_1]] rfl (by (try simp only [List.map_toArray, List.map_cons, List.map_nil]); first | done | rfl | (simp only [List.length_drop, List.length_take]; rfl)) ?_; (with_reducible refine (laws_toFont.calls k a0_0 _ _ l0_1 t302 t303 _ ?side1 ?side2 A13.out).mono ?_); (case side1 => exact Kd.C_below HR0_1.out (by repeat (first | (with_reducible first | exact HB.out | apply below_alloc | apply pw_below_drewN | apply below_drew1 | refine below_set ?_ GE287.out | refine below_set ?_ GE288.out | refine below_set ?_ GE301.out) | exact HB.out))); (case side2 => exact HC0_1.out); rintro e w55 ⟨v304, rfl, ho0, hb⟩; refine ⟨_, rfl, ?_⟩; have n0_ := Aside0.mk (Kd.R_elder' (by (with_reducible repeat (first | apply Kd.R_alloc | apply Kd.R_drewN | apply Kd.R_drew)); exact (Kd.R_mono (Kd.R_far (p := ⟨gb301, 2, none⟩) (Kd.R_far (p := ⟨gb301, 1, none⟩) (Kd.R_far (p := ⟨gb301, 0, none⟩) (Kd.R_types HO293.out BK301.out (by decide)) (fun _ hk => hk.2) (.int .i64 t296)) (fun _ hk => hk.2) (.int .i64 t297)) (fun _ hk => hk.2) (.slice Ao51 t298.length co51)) (fun _ h_ => h_.1))) (Kd.R_base ho0) hb); have n1_ := Aside0.mk (Kd.R_elder' (by (with_reducible repeat (first | apply Kd.R_alloc | apply Kd.R_drewN | apply Kd.R_drew)); exact (Kd.R_mono (Kd.R_far (p := ⟨gb301, 2, none⟩) (Kd.R_far (p := ⟨gb301, 1, none⟩) (Kd.R_far (p := ⟨gb301, 0, none⟩) (Kd.R_types HO300.out BK301.out (by decide)) (fun _ hk => hk.2) (.int .i64 t296)) (fun _ hk => hk.2) (.int .i64 t297)) (fun _ hk => hk.2) (.slice Ao51 t298.length co51)) (fun _ h_ => h_.1))) (Kd.R_base ho0) hb); have n2_ := Aside0.mk (Kd.R_lower (Kd.R_new' (Kd.R_new' ho0 (Kd.R_lt (by (with_reducible repeat (first | apply Kd.R_alloc | apply Kd.R_drewN | apply Kd.R_drew)); exact (Kd.R_mono (Kd.R_far (p := ⟨gb301, 2, none⟩) (Kd.R_far (p := ⟨gb301, 1, none⟩) (Kd.R_far (p := ⟨gb301, 0, none⟩) (Kd.R_types HO293.out BK301.out (by decide)) (fun _ hk => hk.2) (.int .i64 t296)) (fun _ hk => hk.2) (.int .i64 t297)) (fun _ hk => hk.2) (.slice Ao51 t298.length co51)) (fun _ h_ => h_.1))))) (Kd.R_lt (by (with_reducible repeat (first | apply Kd.R_alloc | apply Kd.R_drewN | apply Kd.R_drew)); exact (Kd.R_mono (Kd.R_far (p := ⟨gb301, 2, none⟩) (Kd.R_far (p := ⟨gb301, 1, none⟩) (Kd.R_far (p := ⟨gb301, 0, none⟩) (Kd.R_types HO300.out BK301.out (by decide)) (fun _ hk => hk.2) (.int .i64 t296)) (fun _ hk => hk.2) (.int .i64 t297)) (fun _ hk => hk.2) (.slice Ao51 t298.length co51)) (fun _ h_ => h_.1))))) (below_size (by repeat (first | (with_reducible first | exact HB.out | apply below_alloc | apply pw_below_drewN | apply below_drew1 | refine below_set ?_ GE287.out | refine below_set ?_ GE288.out | refine below_set ?_ GE301.out) | exact HB.out)))); have n3_ := Aside0.mk (blk_below (g := gb287) (o := .cells #[.int .i64 a0_0, .slice A0_1 l0_1.length c0_1] 41 (0, 0)) (by (with_reducible repeat (first | refine blk_drewN ?_ _ | refine blk_drew ?_ | refine blk_alloc ?_ _)); refine blk_far ?_ NB287_301.out _; (with_reducible repeat (first | refine blk_drewN ?_ _ | refine blk_drew ?_ | refine blk_alloc ?_ _)); refine blk_far ?_ NB287_301.out _; (with_reducible repeat (first | refine blk_drewN ?_ _ | refine blk_drew ?_ | refine blk_alloc ?_ _)); refine blk_far ?_ NB287_301.out _; (with_reducible repeat (first | refine blk_drewN ?_ _ | refine blk_drew ?_ | refine blk_alloc ?_ _)); exact BK287.out) hb); have n4_ := Aside0.mk (blk_below (g := gb288) (o := .cells #[.int .i64 a1_0, .int .i64 a1_1] 42 (0, 0)) (by (with_reducible repeat (first | refine blk_drewN ?_ _ | refine blk_drew ?_ | refine blk_alloc ?_ _)); refine blk_far ?_ NB288_301.out _; (with_reducible repeat (first | refine blk_drewN ?_ _ | refine blk_drew ?_ | refine blk_alloc ?_ _)); refine blk_far ?_ NB288_301.out _; (with_reducible repeat (first | refine blk_drewN ?_ _ | refine blk_drew ?_ | refine blk_alloc ?_ _)); refine blk_far ?_ NB288_301.out _; (with_reducible repeat (first | refine blk_drewN ?_ _ | refine blk_drew ?_ | refine blk_alloc ?_ _)); exact BK288.out) hb); have n5_ := Aside0.mk (blk_below (g := gb301) (o := .cells #[.int .i64 t296, .int .i64 t297, .slice Ao51 t298.length co51] 32 (0, 0)) (by (with_reducible repeat (first | refine blk_drewN ?_ _ | refine blk_drew ?_ | refine blk_alloc ?_ _)); refine blk_put (cs := #[.int .i64 t296, .int .i64 t297, .slice none 0 0]) ?_ 2 _ rfl; (with_reducible repeat (first | refine blk_drewN ?_ _ | refine blk_drew ?_ | refine blk_alloc ?_ _)); refine blk_put (cs := #[.int .i64 t296, .int .i64 0, .slice none 0 0]) ?_ 1 _ rfl; (with_reducible repeat (first | refine blk_drewN ?_ _ | refine blk_drew ?_ | refine blk_alloc ?_ _)); refine blk_put (cs := #[.int .i64 0, .int .i64 0, .slice none 0 0]) ?_ 0 _ rfl; (with_reducible repeat (first | refine blk_drewN ?_ _ | refine blk_drew ?_ | refine blk_alloc ?_ _)); exact BK301.out) hb); have n6_ := Aside0.mk (below_step (by repeat (first | (with_reducible first | exact HB.out | apply below_alloc | apply pw_below_drewN | apply below_drew1 | refine below_set ?_ GE287.out | refine below_set ?_ GE288.out | refine below_set ?_ GE301.out) | exact HB.out)) hb); clear HO293; clear HO300; clear BK287; clear BK288; clear BK301; clear HB; have HO293 := n0_; have HO300 := n1_; have HO305 := n2_; have BK287 := n3_; have BK288 := n4_; have BK301 := n5_; have HB := n6_; clear n0_ n1_ n2_ n3_ n4_ n5_ n6_; (try clear hb); (try clear hb2); (try clear hk); (try clear hi); (try clear ho0)) | ((with_reducible refine gate_dst (N := 7) rfl ?_); refine box_event ?hg (N := 7) ?hd (cs := #[.int .i64 0, .slice none 0 0]) (t := 26) ?hr ?_; (case hd => rfl); (case hg => rfl); (case hr => first | (go_simp; done) | (go_simp; rfl)); intro gb306 hg w56 hbox hb; have n0_ := Aside0.mk (Kd.R_below (by (with_reducible repeat (first | apply Kd.R_alloc | apply Kd.R_drewN | apply Kd.R_drew)); exact HO293.out) hb); have n1_ := Aside0.mk (Kd.R_below (by (with_reducible repeat (first | apply Kd.R_alloc | apply Kd.R_drewN | apply Kd.R_drew)); exact HO300.out) hb); have n2_ := Aside0.mk (Kd.R_below (by (with_reducible repeat (first | apply Kd.R_alloc | apply Kd.R_drewN | apply Kd.R_drew)); exact HO305.out) hb); have n3_ := Aside0.mk (blkb hb BK287.out); have n4_ := Aside0.mk (blkb hb BK288.out); have n5_ := Aside0.mk (blkb hb BK301.out); have n6_ := Aside0.mk (below_step (by repeat (first | (with_reducible first | exact HB.out | apply below_alloc | apply pw_below_drewN | apply below_drew1 | refine below_set ?_ GE287.out | refine below_set ?_ GE288.out | refine below_set ?_ GE301.out) | exact HB.out)) hb); have n7_ := Aside0.mk (hbox); have n8_ := Aside0.mk ((by rw [hg]; exact (below_size (by repeat (first | (with_reducible first | exact HB.out | apply below_alloc | apply pw_below_drewN | apply below_drew1 | refine below_set ?_ GE287.out | refine below_set ?_ GE288.out | refine below_set ?_ GE301.out) | exact HB.out))) : w.heap.size ≤ gb306)); have n9_ := Aside0.mk ((by rw [hg]; exact (below_size (by repeat (first | (with_reducible first | exact HB.out | apply below_alloc | apply pw_below_drewN | apply below_drew1 | refine below_set ?_ GE287.out | refine below_set ?_ GE288.out | refine below_set ?_ GE301.out) | exact HB.out))) : w.heap.size ≤ gb306)); have n10_ := Aside0.mk ((blkn hg BK287.out)); have n11_ := Aside0.mk ((blkm hg BK287.out)); have n12_ := Aside0.mk ((blkn hg BK288.out)); have n13_ := Aside0.mk ((blkm hg BK288.out)); have n14_ := Aside0.mk ((blkn hg BK301.out)); have n15_ := Aside0.mk ((blkm hg BK301.out)); clear HO293; clear HO300; clear HO305; clear BK287; clear BK288; clear BK301; clear HB; have HO293 := n0_; have HO300 := n1_; have HO305 := n2_; have BK287 := n3_; have BK288 := n4_; have BK301 := n5_; have HB := n6_; have BK306 := n7_; have GW306 := n8_; have GE306 := n9_; have NB287_306 := n10_; have NB306_287 := n11_; have NB288_306 := n12_; have NB306_288 := n13_; have NB301_306 := n14_; have NB306_301 := n15_; clear n0_ n1_ n2_ n3_ n4_ n5_ n6_ n7_ n8_ n9_ n10_ n11_ n12_ n13_ n14_ n15_; clear hb hbox hg; have hnb57 := NB306_287.out; have hnc57 := NB287_306.out; have hnb58 := NB306_288.out; have hnc58 := NB288_306.out; have hnb59 := NB306_301.out; have hnc59 := NB301_306.out; have hcz60_0 : w56.cell? ⟨gb306, 0, none⟩ = some (.int .i64 0) := (blk_cell BK306.out 0).trans rfl; have hcz60_1 : w56.cell? ⟨gb306, 1, none⟩ = some (.slice none 0 0) := (blk_cell BK306.out 1).trans rfl; have hfz60_0 := blk_frozen BK306.out 0; have hfz60_1 := blk_frozen BK306.out 1; obtain ⟨Ao61, co61, eo61⟩ := Kd.R_slice HO305.out; subst eo61))
           have n0_ : Aside0 (Kd.R k28 28 ((w56.setCell ⟨gb306, 0, none⟩ (.int .i64 t302)).setCell ⟨gb306, 1, none⟩ (.slice Ao61 t303.length co61)) w.heap.size (fun k_ => some k_ ≠ (.slice Ao51 t298.length co51 : Value).ownBlock ∧ some k_ ≠ (.slice Ao61 t303.length co61 : Value).ownBlock) v292 t291) := ⟨by (with_reducible repeat (first | apply Kd.R_alloc | apply Kd.R_drewN | apply Kd.R_drew)); exact Kd.R_mono (Kd.R_far (p := ⟨gb306, 1, none⟩) (Kd.R_far (p := ⟨gb306, 0, none⟩) (Kd.R_types HO293.out BK306.out (by decide)) (fun _ hk => hk.2) (.int .i64 t302)) (fun _ hk => hk.2) (.slice Ao61 t303.length co61)) (fun _ hk => ⟨hk.1.1, hk.1.2⟩)⟩
           have n1_ : Aside0 (Kd.R k28 28 ((w56.setCell ⟨gb306, 0, none⟩ (.int .i64 t302)).setCell ⟨gb306, 1, none⟩ (.slice Ao61 t303.length co61)) w.heap.size (fun k_ => some k_ ≠ (v292 : Value).ownBlock ∧ some k_ ≠ (.slice Ao61 t303.length co61 : Value).ownBlock) (.slice Ao51 t298.length co51) t298) := ⟨by (with_reducible repeat (first | apply Kd.R_alloc | apply Kd.R_drewN | apply Kd.R_drew)); exact Kd.R_mono (Kd.R_far (p := ⟨gb306, 1, none⟩) (Kd.R_far (p := ⟨gb306, 0, none⟩) (Kd.R_types HO300.out BK306.out (by decide)) (fun _ hk => hk.2) (.int .i64 t302)) (fun _ hk => hk.2) (.slice Ao61 t303.length co61)) (fun _ hk => ⟨hk.1.1, hk.1.2⟩)⟩
           have n2_ : Aside0 (Kd.R k28 28 ((w56.setCell ⟨gb306, 0, none⟩ (.int .i64 t302)).setCell ⟨gb306, 1, none⟩ (.slice Ao61 t303.length co61)) w.heap.size (fun k_ => some k_ ≠ (v292 : Value).ownBlock ∧ some k_ ≠ (.slice Ao51 t298.length co51 : Value).ownBlock) (.slice Ao61 t303.length co61) t303) := ⟨by (with_reducible repeat (first | apply Kd.R_alloc | apply Kd.R_drewN | apply Kd.R_drew)); exact Kd.R_mono (Kd.R_far (p := ⟨gb306, 1, none⟩) (Kd.R_far (p := ⟨gb306, 0, none⟩) (Kd.R_types HO305.out BK306.out (by decide)) (fun _ hk => hk.2) (.int .i64 t302)) (fun _ hk => hk.2) (.slice Ao61 t303.length co61)) (fun _ hk => ⟨hk.1.1.2, hk.1.2⟩)⟩
           have n3_ : Aside0 (((w56.setCell ⟨gb306, 0, none⟩ (.int .i64 t302)).setCell ⟨gb306, 1, none⟩ (.slice Ao61 t303.length co61)).heap[gb287]? = some (.cells #[.int .i64 a0_0, .slice A0_1 l0_1.length c0_1] 41 (0, 0))) := ⟨by (with_reducible repeat (first | refine blk_drewN ?_ _ | refine blk_drew ?_ | refine blk_alloc ?_ _)); refine blk_far ?_ NB287_306.out _; (with_reducible repeat (first | refine blk_drewN ?_ _ | refine blk_drew ?_ | refine blk_alloc ?_ _)); refine blk_far ?_ NB287_306.out _; (with_reducible repeat (first | refine blk_drewN ?_ _ | refine blk_drew ?_ | refine blk_alloc ?_ _)); exact BK287.out⟩
           have n4_ : Aside0 (((w56.setCell ⟨gb306, 0, none⟩ (.int .i64 t302)).setCell ⟨gb306, 1, none⟩ (.slice Ao61 t303.length co61)).heap[gb288]? = some (.cells #[.int .i64 a1_0, .int .i64 a1_1] 42 (0, 0))) := ⟨by (with_reducible repeat (first | refine blk_drewN ?_ _ | refine blk_drew ?_ | refine blk_alloc ?_ _)); refine blk_far ?_ NB288_306.out _; (with_reducible repeat (first | refine blk_drewN ?_ _ | refine blk_drew ?_ | refine blk_alloc ?_ _)); refine blk_far ?_ NB288_306.out _; (with_reducible repeat (first | refine blk_drewN ?_ _ | refine blk_drew ?_ | refine blk_alloc ?_ _)); exact BK288.out⟩
           have n5_ : Aside0 (((w56.setCell ⟨gb306, 0, none⟩ (.int .i64 t302)).setCell ⟨gb306, 1, none⟩ (.slice Ao61 t303.length co61)).heap[gb301]? = some (.cells #[.int .i64 t296, .int .i64 t297, .slice Ao51 t298.length co51] 32 (0, 0))) := ⟨by (with_reducible repeat (first | refine blk_drewN ?_ _ | refine blk_drew ?_ | refine blk_alloc ?_ _)); refine blk_far ?_ NB301_306.out _; (with_reducible repeat (first | refine blk_drewN ?_ _ | refine blk_drew ?_ | refine blk_alloc ?_ _)); refine blk_far ?_ NB301_306.out _; (with_reducible repeat (first | refine blk_drewN ?_ _ | refine blk_drew ?_ | refine blk_alloc ?_ _)); exact BK301.out⟩
           have n6_ : Aside0 (((w56.setCell ⟨gb306, 0, none⟩ (.int .i64 t302)).setCell ⟨gb306, 1, none⟩ (.slice Ao61 t303.length co61)).heap[gb306]? = some (.cells #[.int .i64 t302, .slice Ao61 t303.length co61] 26 (0, 0))) := ⟨by (with_reducible repeat (first | refine blk_drewN ?_ _ | refine blk_drew ?_ | refine blk_alloc ?_ _)); refine blk_put (cs := #[.int .i64 t302, .slice none 0 0]) ?_ 1 _ rfl; (with_reducible repeat (first | refine blk_drewN ?_ _ | refine blk_drew ?_ | refine blk_alloc ?_ _)); refine blk_put (cs := #[.int .i64 0, .slice none 0 0]) ?_ 0 _ rfl; (with_reducible repeat (first | refine blk_drewN ?_ _ | refine blk_drew ?_ | refine blk_alloc ?_ _)); exact BK306.out⟩
           have n7_ : Aside0 (Below w.heap.size w ((w56.setCell ⟨gb306, 0, none⟩ (.int .i64 t302)).setCell ⟨gb306, 1, none⟩ (.slice Ao61 t303.length co61))) := ⟨by repeat (first | (with_reducible first | exact HB.out | apply below_alloc | apply pw_below_drewN | apply below_drew1 | refine below_set ?_ GE287.out | refine below_set ?_ GE288.out | refine below_set ?_ GE301.out | refine below_set ?_ GE306.out) | exact HB.out)⟩
           (try clear HO293)
           (try clear HO300)
           (try clear HO305)
           (try clear BK287)
           (try clear BK288)
           (try clear BK301)
           (try clear BK306)
           (try clear HB)
           generalize ((w56.setCell ⟨gb306, 0, none⟩ (.int .i64 t302)).setCell ⟨gb306, 1, none⟩ (.slice Ao61 t303.length co61)) = w62 at n0_ n1_ n2_ n3_ n4_ n5_ n6_ n7_ ⊢
           have HO293 := n0_
           have HO300 := n1_
           have HO305 := n2_
           have BK287 := n3_
           have BK288 := n4_
           have BK301 := n5_
           have BK306 := n6_
           have HB := n7_
           clear n0_ n1_ n2_ n3_ n4_ n5_ n6_ n7_
           have n0_ := Aside0.mk (Kd.R_drew HO293.out)
           have n1_ := Aside0.mk (Kd.R_drew HO300.out)
           have n2_ := Aside0.mk (Kd.R_drew HO305.out)
           have n3_ := Aside0.mk (blk_drew BK287.out)
           have n4_ := Aside0.mk (blk_drew BK288.out)
           have n5_ := Aside0.mk (blk_drew BK301.out)
           have n6_ := Aside0.mk (blk_drew BK306.out)
           have n7_ := Aside0.mk (below_drew1 HB.out)
           clear HO293
           clear HO300
           clear HO305
           clear BK287
           clear BK288
           clear BK301
           clear BK306
           clear HB
           have HO293 := n0_
           have HO300 := n1_
           have HO305 := n2_
           have BK287 := n3_
           have BK288 := n4_
           have BK301 := n5_
           have BK306 := n6_
           have HB := n7_
           clear n0_ n1_ n2_ n3_ n4_ n5_ n6_ n7_
           refine start_ (n := 6) (S := fun w' => w'.cell? ⟨gb306, 0, none⟩ = some (.int .i64 t302) ∧ w'.cell? ⟨gb306, 1, none⟩ = some (.slice Ao61 t303.length co61) ∧ w'.cell? ⟨gb288, 0, none⟩ = some (.int .i64 a1_0) ∧ w'.cell? ⟨gb288, 1, none⟩ = some (.int .i64 a1_1)) (ds := []) #[false, false, false, false, false, false] (by kernel_rfl) rfl rfl ⟨(blk_cell BK306.out 0).trans rfl, (blk_cell BK306.out 1).trans rfl, (blk_cell BK288.out 0).trans rfl, (blk_cell BK288.out 1).trans rfl⟩ (fun hHeld => ?_)
           generalize w62.drew = w63 at HO293 HO300 HO305 BK287 BK288 BK301 BK306 HB hHeld ⊢
           refine take_ (i := 0) (N := some 25) (v := ?_) (a' := ?_) #[true, false, false, false, false, false] rfl rfl (by kernel_rfl) (fun _ _ _ h => h) (Or.inl ⟨by rfl, ?_⟩) hHeld ?_ ?_
           rotate_left
           ·rintro w' ⟨s0, s1, s2, s3⟩
            go_simp
            with_reducible rfl
           rotate_left
           ·simp only [Act.put, List.setIfInBounds_toArray, List.set_cons_zero, List.set_cons_succ, i64_w, i32_w]
            rfl
           refine take_ (i := 1) (N := some 26) (v := ?_) (a' := ?_) #[true, true, false, false, false, false] rfl rfl (by kernel_rfl) (fun _ _ _ h => h) (Or.inl ⟨by rfl, ?_⟩) hHeld ?_ ?_
           rotate_left
           ·rintro w' ⟨s0, s1, s2, s3⟩
            go_simp
            with_reducible rfl
           rotate_left
           ·simp only [Act.put, List.setIfInBounds_toArray, List.set_cons_zero, List.set_cons_succ, i64_w, i32_w]
            rfl
           refine join_ (σ := Value × Nat) 1 #[true, true, true, true, true, false] (fun s_ => [(27, .agg #[.int .i64 t307, .int .i64 t308]), (28, .agg #[.int .i64 t309, .int .i64 t310, s_.1]), (8, .pointer (some ⟨s_.2, 0, none⟩))]) (fun s_ w' => (w'.cell? ⟨gb306, 0, none⟩ = some (.int .i64 t302) ∧ w'.cell? ⟨gb306, 1, none⟩ = some (.slice Ao61 t303.length co61) ∧ w'.cell? ⟨gb288, 0, none⟩ = some (.int .i64 a1_0) ∧ w'.cell? ⟨gb288, 1, none⟩ = some (.int .i64 a1_1)) ∧ (Kd.R k28 28 w' w.heap.size (fun k_ => some k_ ≠ (.slice Ao51 t298.length co51 : Value).ownBlock ∧ some k_ ≠ (.slice Ao61 t303.length co61 : Value).ownBlock ∧ some k_ ≠ (s_.1 : Value).ownBlock) v292 t291) ∧ (Kd.R k28 28 w' w.heap.size (fun k_ => some k_ ≠ (v292 : Value).ownBlock ∧ some k_ ≠ (.slice Ao61 t303.length co61 : Value).ownBlock ∧ some k_ ≠ (s_.1 : Value).ownBlock) (.slice Ao51 t298.length co51) t298) ∧ (Kd.R k28 28 w' w.heap.size (fun k_ => some k_ ≠ (v292 : Value).ownBlock ∧ some k_ ≠ (.slice Ao51 t298.length co51 : Value).ownBlock ∧ some k_ ≠ (s_.1 : Value).ownBlock) (.slice Ao61 t303.length co61) t303) ∧ (Kd.R k28 28 w' w.heap.size (fun k_ => some k_ ≠ (v292 : Value).ownBlock ∧ some k_ ≠ (.slice Ao51 t298.length co51 : Value).ownBlock ∧ some k_ ≠ (.slice Ao61 t303.length co61 : Value).ownBlock) s_.1 t311) ∧ (w'.heap[gb287]? = some (.cells #[.int .i64 a0_0, .slice A0_1 l0_1.length c0_1] 41 (0, 0))) ∧ (w'.heap[gb288]? = some (.cells #[.int .i64 a1_0, .int .i64 a1_1] 42 (0, 0))) ∧ (w'.heap[gb301]? = some (.cells #[.int .i64 t296, .int .i64 t297, .slice Ao51 t298.length co51] 32 (0, 0))) ∧ (w'.heap[gb306]? = some (.cells #[.int .i64 t302, .slice Ao61 t303.length co61] 26 (0, 0))) ∧ (w'.heap[s_.2]? = some (.cells #[.int .i64 0, .int .i64 0, .slice none 0 0] 32 (0, 0))) ∧ (w.heap.size ≤ s_.2) ∧ (w.heap.size ≤ s_.2) ∧ (gb287 ≠ s_.2) ∧ (s_.2 ≠ gb287) ∧ (gb288 ≠ s_.2) ∧ (s_.2 ≠ gb288) ∧ (gb301 ≠ s_.2) ∧ (s_.2 ≠ gb301) ∧ (gb306 ≠ s_.2) ∧ (s_.2 ≠ gb306) ∧ (Below w.heap.size w w')) ?_ ?_
           rotate_left
           ·intro hCont
            refine two_ (i := 2) (j := 4) (Ni := some 27) (Nj := some 8) #[true, true, true, false, false, false] #[true, true, false, false, true, false] rfl rfl rfl rfl (by kernel_rfl) (by decide) (by decide) (fun K hK => ?_) (fun K hK => ?_)
            ·skip
             refine goes_ Try.func17 (by kernel_rfl) rfl #[.agg #[.int .i64 a1_0, .int .i64 a1_1]] (by rfl) rfl rfl (by (try simp only [List.map_toArray, List.map_cons, List.map_nil]); first | done | rfl | (simp only [List.length_drop, List.length_take]; rfl)) ?_
             with_reducible refine (laws_toPair.calls a1_0 a1_1 t307 t308 _ A14.out).mono ?_
             rintro e w64 ⟨rfl, hb⟩
             refine ⟨_, rfl, ?_⟩
             have n0_ := Aside0.mk (Kd.R_below (by (with_reducible repeat (first | apply Kd.R_alloc | apply Kd.R_drewN | apply Kd.R_drew)); exact HO293.out) hb)
             have n1_ := Aside0.mk (Kd.R_below (by (with_reducible repeat (first | apply Kd.R_alloc | apply Kd.R_drewN | apply Kd.R_drew)); exact HO300.out) hb)
             have n2_ := Aside0.mk (Kd.R_below (by (with_reducible repeat (first | apply Kd.R_alloc | apply Kd.R_drewN | apply Kd.R_drew)); exact HO305.out) hb)
             have n3_ := Aside0.mk (blkb hb BK287.out)
             have n4_ := Aside0.mk (blkb hb BK288.out)
             have n5_ := Aside0.mk (blkb hb BK301.out)
             have n6_ := Aside0.mk (blkb hb BK306.out)
             have n7_ := Aside0.mk (below_step (by repeat (first | (with_reducible first | exact HB.out | apply below_alloc | apply pw_below_drewN | apply below_drew1 | refine below_set ?_ GE287.out | refine below_set ?_ GE288.out | refine below_set ?_ GE301.out | refine below_set ?_ GE306.out) | exact HB.out)) hb)
             clear HO293
             clear HO300
             clear HO305
             clear BK287
             clear BK288
             clear BK301
             clear BK306
             clear HB
             have HO293 := n0_
             have HO300 := n1_
             have HO305 := n2_
             have BK287 := n3_
             have BK288 := n4_
             have BK301 := n5_
             have BK306 := n6_
             have HB := n7_
             clear n0_ n1_ n2_ n3_ n4_ n5_ n6_ n7_
             (try clear hb)
             (try clear hb2)
             (try clear hk)
             (try clear hi)
             refine hK.out _ _ ⟨(blk_cell BK306.out 0).trans rfl, (blk_cell BK306.out 1).trans rfl, (blk_cell BK288.out 0).trans rfl, (blk_cell BK288.out 1).trans rfl⟩ (fun hHeld => ?_)
             clear hK K
             refine norm_ (a' := ?_) ?_ ?_
             rotate_left
             ·show Act.put _ (some 27) _ = _
              simp only [Act.put, List.setIfInBounds_toArray, List.set_cons_zero, List.set_cons_succ, i64_w, i32_w]
              rfl
             refine two_ (i := 3) (j := 4) (Ni := some 28) (Nj := some 8) #[true, true, true, true, false, false] #[true, true, true, false, true, false] rfl rfl rfl rfl (by kernel_rfl) (by decide) (by decide) (fun K hK => ?_) (fun K hK => ?_)
             ·skip
              refine goes_ Try.func9 (by kernel_rfl) rfl #[.agg #[.int .i64 t302, .slice Ao61 t303.length co61], .agg #[.int .i64 t307, .int .i64 t308]] (by rfl) rfl rfl (by (try simp only [List.map_toArray, List.map_cons, List.map_nil]); first | done | rfl | (simp only [List.length_drop, List.length_take]; rfl)) ?_
              with_reducible refine (impl_PutPair.calls k t302 _ _ t303 t307 t308 t309 t310 t311 _ ?side1 ?side2 A15.out).mono ?_
              (case side1 => repeat (first | exact (Kd.R_reads' HO305.out).2.2 | (with_reducible refine Kd.C_alloc ?_ _) | (with_reducible refine Kd.C_drewN ?_ _) | (with_reducible refine Kd.C_drew ?_)))
              (case side2 => exact (Kd.R_reads' HO305.out).2.1)
              rintro e w65 ⟨v312, rfl, ho0, hb⟩
              refine ⟨_, rfl, ?_⟩
              have n0_ := Aside0.mk (Kd.R_elder' (by (with_reducible repeat (first | apply Kd.R_alloc | apply Kd.R_drewN | apply Kd.R_drew)); exact HO293.out) (Kd.R_base ho0) hb)
              have n1_ := Aside0.mk (Kd.R_elder' (by (with_reducible repeat (first | apply Kd.R_alloc | apply Kd.R_drewN | apply Kd.R_drew)); exact HO300.out) (Kd.R_base ho0) hb)
              have n2_ := Aside0.mk (Kd.R_elder' (by (with_reducible repeat (first | apply Kd.R_alloc | apply Kd.R_drewN | apply Kd.R_drew)); exact HO305.out) (Kd.R_base ho0) hb)
              have n3_ := Aside0.mk (Kd.R_lower (Kd.R_new' (Kd.R_new' (Kd.R_new' ho0 (Kd.R_lt (by (with_reducible repeat (first | apply Kd.R_alloc | apply Kd.R_drewN | apply Kd.R_drew)); exact HO293.out))) (Kd.R_lt (by (with_reducible repeat (first | apply Kd.R_alloc | apply Kd.R_drewN | apply Kd.R_drew)); exact HO300.out))) (Kd.R_lt (by (with_reducible repeat (first | apply Kd.R_alloc | apply Kd.R_drewN | apply Kd.R_drew)); exact HO305.out))) (below_size (by repeat (first | (with_reducible first | exact HB.out | apply below_alloc | apply pw_below_drewN | apply below_drew1 | refine below_set ?_ GE287.out | refine below_set ?_ GE288.out | refine below_set ?_ GE301.out | refine below_set ?_ GE306.out) | exact HB.out))))
              have n4_ := Aside0.mk (blkb hb BK287.out)
              have n5_ := Aside0.mk (blkb hb BK288.out)
              have n6_ := Aside0.mk (blkb hb BK301.out)
              have n7_ := Aside0.mk (blkb hb BK306.out)
              have n8_ := Aside0.mk (below_step (by repeat (first | (with_reducible first | exact HB.out | apply below_alloc | apply pw_below_drewN | apply below_drew1 | refine below_set ?_ GE287.out | refine below_set ?_ GE288.out | refine below_set ?_ GE301.out | refine below_set ?_ GE306.out) | exact HB.out)) hb)
              clear HO293
              clear HO300
              clear HO305
              clear BK287
              clear BK288
              clear BK301
              clear BK306
              clear HB
              have HO293 := n0_
              have HO300 := n1_
              have HO305 := n2_
              have HO313 := n3_
              have BK287 := n4_
              have BK288 := n5_
              have BK301 := n6_
              have BK306 := n7_
              have HB := n8_
              clear n0_ n1_ n2_ n3_ n4_ n5_ n6_ n7_ n8_
              (try clear hb)
              (try clear hb2)
              (try clear hk)
              (try clear hi)
              (try clear ho0)
              refine hK.out _ _ ⟨(blk_cell BK306.out 0).trans rfl, (blk_cell BK306.out 1).trans rfl, (blk_cell BK288.out 0).trans rfl, (blk_cell BK288.out 1).trans rfl⟩ (fun hHeld => ?_)
              clear hK K
              refine norm_ (a' := ?_) ?_ ?_
              rotate_left
              ·show Act.put _ (some 28) _ = _
               simp only [Act.put, List.setIfInBounds_toArray, List.set_cons_zero, List.set_cons_succ, i64_w, i32_w]
               rfl
              refine one_ (i := 4) (N := some 8) #[true, true, true, true, true, false] rfl rfl (by kernel_rfl) (by decide) (fun K hK => ?_)
              refine box_step ?hg (N := 8) ?hd (cs := #[.int .i64 0, .int .i64 0, .slice none 0 0]) (t := 32) ?hr ?_; (case hd => rfl); (case hg => rfl); (case hr => first | (go_simp; done) | (go_simp; rfl))
              intro gb314 hg w66 hbox hb
              have n0_ := Aside0.mk (Kd.R_below (by (with_reducible repeat (first | apply Kd.R_alloc | apply Kd.R_drewN | apply Kd.R_drew)); exact HO293.out) hb)
              have n1_ := Aside0.mk (Kd.R_below (by (with_reducible repeat (first | apply Kd.R_alloc | apply Kd.R_drewN | apply Kd.R_drew)); exact HO300.out) hb)
              have n2_ := Aside0.mk (Kd.R_below (by (with_reducible repeat (first | apply Kd.R_alloc | apply Kd.R_drewN | apply Kd.R_drew)); exact HO305.out) hb)
              have n3_ := Aside0.mk (Kd.R_below (by (with_reducible repeat (first | apply Kd.R_alloc | apply Kd.R_drewN | apply Kd.R_drew)); exact HO313.out) hb)
              have n4_ := Aside0.mk (blkb hb BK287.out)
              have n5_ := Aside0.mk (blkb hb BK288.out)
              have n6_ := Aside0.mk (blkb hb BK301.out)
              have n7_ := Aside0.mk (blkb hb BK306.out)
              have n8_ := Aside0.mk (below_step (by repeat (first | (with_reducible first | exact HB.out | apply below_alloc | apply pw_below_drewN | apply below_drew1 | refine below_set ?_ GE287.out | refine below_set ?_ GE288.out | refine below_set ?_ GE301.out | refine below_set ?_ GE306.out) | exact HB.out)) hb)
              have n9_ := Aside0.mk (hbox)
              have n10_ := Aside0.mk ((by rw [hg]; exact (below_size (by repeat (first | (with_reducible first | exact HB.out | apply below_alloc | apply pw_below_drewN | apply below_drew1 | refine below_set ?_ GE287.out | refine below_set ?_ GE288.out | refine below_set ?_ GE301.out | refine below_set ?_ GE306.out) | exact HB.out))) : w.heap.size ≤ gb314))
              have n11_ := Aside0.mk ((by rw [hg]; exact (below_size (by repeat (first | (with_reducible first | exact HB.out | apply below_alloc | apply pw_below_drewN | apply below_drew1 | refine below_set ?_ GE287.out | refine below_set ?_ GE288.out | refine below_set ?_ GE301.out | refine below_set ?_ GE306.out) | exact HB.out))) : w.heap.size ≤ gb314))
              have n12_ := Aside0.mk ((blkn hg BK287.out))
              have n13_ := Aside0.mk ((blkm hg BK287.out))
              have n14_ := Aside0.mk ((blkn hg BK288.out))
              have n15_ := Aside0.mk ((blkm hg BK288.out))
              have n16_ := Aside0.mk ((blkn hg BK301.out))
              have n17_ := Aside0.mk ((blkm hg BK301.out))
              have n18_ := Aside0.mk ((blkn hg BK306.out))
              have n19_ := Aside0.mk ((blkm hg BK306.out))
              clear HO293
              clear HO300
              clear HO305
              clear HO313
              clear BK287
              clear BK288
              clear BK301
              clear BK306
              clear HB
              have HO293 := n0_
              have HO300 := n1_
              have HO305 := n2_
              have HO313 := n3_
              have BK287 := n4_
              have BK288 := n5_
              have BK301 := n6_
              have BK306 := n7_
              have HB := n8_
              have BK314 := n9_
              have GW314 := n10_
              have GE314 := n11_
              have NB287_314 := n12_
              have NB314_287 := n13_
              have NB288_314 := n14_
              have NB314_288 := n15_
              have NB301_314 := n16_
              have NB314_301 := n17_
              have NB306_314 := n18_
              have NB314_306 := n19_
              clear n0_ n1_ n2_ n3_ n4_ n5_ n6_ n7_ n8_ n9_ n10_ n11_ n12_ n13_ n14_ n15_ n16_ n17_ n18_ n19_
              clear hb hbox hg
              refine hK.out _ _ ⟨(blk_cell BK306.out 0).trans rfl, (blk_cell BK306.out 1).trans rfl, (blk_cell BK288.out 0).trans rfl, (blk_cell BK288.out 1).trans rfl⟩ (fun hHeld => ?_)
              clear hK K
              refine norm_ (a' := ?_) ?_ ?_
              rotate_left
              ·show Act.put _ (some 8) _ = _
               simp only [Act.put, List.setIfInBounds_toArray, List.set_cons_zero, List.set_cons_succ, i64_w, i32_w]
               rfl
              exact norm_ (by simp only [putAll, Act.put, List.setIfInBounds_toArray, List.set_cons_zero, List.set_cons_succ]) (hCont (v312, gb314) _ ⟨hHeld, (by (with_reducible repeat (first | apply Kd.R_alloc | apply Kd.R_drewN | apply Kd.R_drew)); exact Kd.R_mono HO293.out (fun _ hk => ⟨hk.1.1, ⟨hk.1.2, hk.2⟩⟩)), (by (with_reducible repeat (first | apply Kd.R_alloc | apply Kd.R_drewN | apply Kd.R_drew)); exact Kd.R_mono HO300.out (fun _ hk => ⟨hk.1.1, ⟨hk.1.2, hk.2⟩⟩)), (by (with_reducible repeat (first | apply Kd.R_alloc | apply Kd.R_drewN | apply Kd.R_drew)); exact Kd.R_mono HO305.out (fun _ hk => ⟨hk.1.1, ⟨hk.1.2, hk.2⟩⟩)), (by (with_reducible repeat (first | apply Kd.R_alloc | apply Kd.R_drewN | apply Kd.R_drew)); exact Kd.R_mono HO313.out (fun _ hk => ⟨hk.1.1.2, ⟨hk.1.2, hk.2⟩⟩)), (by (with_reducible repeat (first | refine blk_drewN ?_ _ | refine blk_drew ?_ | refine blk_alloc ?_ _)); exact BK287.out), (by (with_reducible repeat (first | refine blk_drewN ?_ _ | refine blk_drew ?_ | refine blk_alloc ?_ _)); exact BK288.out), (by (with_reducible repeat (first | refine blk_drewN ?_ _ | refine blk_drew ?_ | refine blk_alloc ?_ _)); exact BK301.out), (by (with_reducible repeat (first | refine blk_drewN ?_ _ | refine blk_drew ?_ | refine blk_alloc ?_ _)); exact BK306.out), (by (with_reducible repeat (first | refine blk_drewN ?_ _ | refine blk_drew ?_ | refine blk_alloc ?_ _)); exact BK314.out), GW314.out, GE314.out, NB287_314.out, NB314_287.out, NB288_314.out, NB314_288.out, NB301_314.out, NB314_301.out, NB306_314.out, NB314_306.out, (by repeat (first | (with_reducible first | exact HB.out | apply below_alloc | apply pw_below_drewN | apply below_drew1 | refine below_set ?_ GE287.out | refine below_set ?_ GE288.out | refine below_set ?_ GE301.out | refine below_set ?_ GE306.out | refine below_set ?_ GE314.out) | exact HB.out))⟩)
             ·skip
              refine box_step ?hg (N := 8) ?hd (cs := #[.int .i64 0, .int .i64 0, .slice none 0 0]) (t := 32) ?hr ?_; (case hd => rfl); (case hg => rfl); (case hr => first | (go_simp; done) | (go_simp; rfl))
              intro gb314 hg w65 hbox hb
              have n0_ := Aside0.mk (Kd.R_below (by (with_reducible repeat (first | apply Kd.R_alloc | apply Kd.R_drewN | apply Kd.R_drew)); exact HO293.out) hb)
              have n1_ := Aside0.mk (Kd.R_below (by (with_reducible repeat (first | apply Kd.R_alloc | apply Kd.R_drewN | apply Kd.R_drew)); exact HO300.out) hb)
              have n2_ := Aside0.mk (Kd.R_below (by (with_reducible repeat (first | apply Kd.R_alloc | apply Kd.R_drewN | apply Kd.R_drew)); exact HO305.out) hb)
              have n3_ := Aside0.mk (blkb hb BK287.out)
              have n4_ := Aside0.mk (blkb hb BK288.out)
              have n5_ := Aside0.mk (blkb hb BK301.out)
              have n6_ := Aside0.mk (blkb hb BK306.out)
              have n7_ := Aside0.mk (below_step (by repeat (first | (with_reducible first | exact HB.out | apply below_alloc | apply pw_below_drewN | apply below_drew1 | refine below_set ?_ GE287.out | refine below_set ?_ GE288.out | refine below_set ?_ GE301.out | refine below_set ?_ GE306.out) | exact HB.out)) hb)
              have n8_ := Aside0.mk (hbox)
              have n9_ := Aside0.mk ((by rw [hg]; exact (below_size (by repeat (first | (with_reducible first | exact HB.out | apply below_alloc | apply pw_below_drewN | apply below_drew1 | refine below_set ?_ GE287.out | refine below_set ?_ GE288.out | refine below_set ?_ GE301.out | refine below_set ?_ GE306.out) | exact HB.out))) : w.heap.size ≤ gb314))
              have n10_ := Aside0.mk ((by rw [hg]; exact (below_size (by repeat (first | (with_reducible first | exact HB.out | apply below_alloc | apply pw_below_drewN | apply below_drew1 | refine below_set ?_ GE287.out | refine below_set ?_ GE288.out | refine below_set ?_ GE301.out | refine below_set ?_ GE306.out) | exact HB.out))) : w.heap.size ≤ gb314))
              have n11_ := Aside0.mk ((blkn hg BK287.out))
              have n12_ := Aside0.mk ((blkm hg BK287.out))
              have n13_ := Aside0.mk ((blkn hg BK288.out))
              have n14_ := Aside0.mk ((blkm hg BK288.out))
              have n15_ := Aside0.mk ((blkn hg BK301.out))
              have n16_ := Aside0.mk ((blkm hg BK301.out))
              have n17_ := Aside0.mk ((blkn hg BK306.out))
              have n18_ := Aside0.mk ((blkm hg BK306.out))
              clear HO293
              clear HO300
              clear HO305
              clear BK287
              clear BK288
              clear BK301
              clear BK306
              clear HB
              have HO293 := n0_
              have HO300 := n1_
              have HO305 := n2_
              have BK287 := n3_
              have BK288 := n4_
              have BK301 := n5_
              have BK306 := n6_
              have HB := n7_
              have BK314 := n8_
              have GW314 := n9_
              have GE314 := n10_
              have NB287_314 := n11_
              have NB314_287 := n12_
              have NB288_314 := n13_
              have NB314_288 := n14_
              have NB301_314 := n15_
              have NB314_301 := n16_
              have NB306_314 := n17_
              have NB314_306 := n18_
              clear n0_ n1_ n2_ n3_ n4_ n5_ n6_ n7_ n8_ n9_ n10_ n11_ n12_ n13_ n14_ n15_ n16_ n17_ n18_
              clear hb hbox hg
              refine hK.out _ _ ⟨(blk_cell BK306.out 0).trans rfl, (blk_cell BK306.out 1).trans rfl, (blk_cell BK288.out 0).trans rfl, (blk_cell BK288.out 1).trans rfl⟩ (fun hHeld => ?_)
              clear hK K
              refine norm_ (a' := ?_) ?_ ?_
              rotate_left
              ·show Act.put _ (some 8) _ = _
               simp only [Act.put, List.setIfInBounds_toArray, List.set_cons_zero, List.set_cons_succ, i64_w, i32_w]
               rfl
              refine one_ (i := 3) (N := some 28) #[true, true, true, true, true, false] rfl rfl (by kernel_rfl) (by decide) (fun K hK => ?_)
              refine goes_ Try.func9 (by kernel_rfl) rfl #[.agg #[.int .i64 t302, .slice Ao61 t303.length co61], .agg #[.int .i64 t307, .int .i64 t308]] (by rfl) rfl rfl (by (try simp only [List.map_toArray, List.map_cons, List.map_nil]); first | done | rfl | (simp only [List.length_drop, List.length_take]; rfl)) ?_
              with_reducible refine (impl_PutPair.calls k t302 _ _ t303 t307 t308 t309 t310 t311 _ ?side1 ?side2 A15.out).mono ?_
              (case side1 => repeat (first | exact (Kd.R_reads' HO305.out).2.2 | (with_reducible refine Kd.C_alloc ?_ _) | (with_reducible refine Kd.C_drewN ?_ _) | (with_reducible refine Kd.C_drew ?_)))
              (case side2 => exact (Kd.R_reads' HO305.out).2.1)
              rintro e w66 ⟨v312, rfl, ho0, hb⟩
              refine ⟨_, rfl, ?_⟩
              have n0_ := Aside0.mk (Kd.R_elder' (by (with_reducible repeat (first | apply Kd.R_alloc | apply Kd.R_drewN | apply Kd.R_drew)); exact HO293.out) (Kd.R_base ho0) hb)
              have n1_ := Aside0.mk (Kd.R_elder' (by (with_reducible repeat (first | apply Kd.R_alloc | apply Kd.R_drewN | apply Kd.R_drew)); exact HO300.out) (Kd.R_base ho0) hb)
              have n2_ := Aside0.mk (Kd.R_elder' (by (with_reducible repeat (first | apply Kd.R_alloc | apply Kd.R_drewN | apply Kd.R_drew)); exact HO305.out) (Kd.R_base ho0) hb)
              have n3_ := Aside0.mk (Kd.R_lower (Kd.R_new' (Kd.R_new' (Kd.R_new' ho0 (Kd.R_lt (by (with_reducible repeat (first | apply Kd.R_alloc | apply Kd.R_drewN | apply Kd.R_drew)); exact HO293.out))) (Kd.R_lt (by (with_reducible repeat (first | apply Kd.R_alloc | apply Kd.R_drewN | apply Kd.R_drew)); exact HO300.out))) (Kd.R_lt (by (with_reducible repeat (first | apply Kd.R_alloc | apply Kd.R_drewN | apply Kd.R_drew)); exact HO305.out))) (below_size (by repeat (first | (with_reducible first | exact HB.out | apply below_alloc | apply pw_below_drewN | apply below_drew1 | refine below_set ?_ GE287.out | refine below_set ?_ GE288.out | refine below_set ?_ GE301.out | refine below_set ?_ GE306.out | refine below_set ?_ GE314.out) | exact HB.out))))
              have n4_ := Aside0.mk (blkb hb BK287.out)
              have n5_ := Aside0.mk (blkb hb BK288.out)
              have n6_ := Aside0.mk (blkb hb BK301.out)
              have n7_ := Aside0.mk (blkb hb BK306.out)
              have n8_ := Aside0.mk (blkb hb BK314.out)
              have n9_ := Aside0.mk (below_step (by repeat (first | (with_reducible first | exact HB.out | apply below_alloc | apply pw_below_drewN | apply below_drew1 | refine below_set ?_ GE287.out | refine below_set ?_ GE288.out | refine below_set ?_ GE301.out | refine below_set ?_ GE306.out | refine below_set ?_ GE314.out) | exact HB.out)) hb)
              clear HO293
              clear HO300
              clear HO305
              clear BK287
              clear BK288
              clear BK301
              clear BK306
              clear BK314
              clear HB
              have HO293 := n0_
              have HO300 := n1_
              have HO305 := n2_
              have HO313 := n3_
              have BK287 := n4_
              have BK288 := n5_
              have BK301 := n6_
              have BK306 := n7_
              have BK314 := n8_
              have HB := n9_
              clear n0_ n1_ n2_ n3_ n4_ n5_ n6_ n7_ n8_ n9_
              (try clear hb)
              (try clear hb2)
              (try clear hk)
              (try clear hi)
              (try clear ho0)
              refine hK.out _ _ ⟨(blk_cell BK306.out 0).trans rfl, (blk_cell BK306.out 1).trans rfl, (blk_cell BK288.out 0).trans rfl, (blk_cell BK288.out 1).trans rfl⟩ (fun hHeld => ?_)
              clear hK K
              refine norm_ (a' := ?_) ?_ ?_
              rotate_left
              ·show Act.put _ (some 28) _ = _
               simp only [Act.put, List.setIfInBounds_toArray, List.set_cons_zero, List.set_cons_succ, i64_w, i32_w]
               rfl
              exact norm_ (by simp only [putAll, Act.put, List.setIfInBounds_toArray, List.set_cons_zero, List.set_cons_succ]) (hCont (v312, gb314) _ ⟨hHeld, (by (with_reducible repeat (first | apply Kd.R_alloc | apply Kd.R_drewN | apply Kd.R_drew)); exact Kd.R_mono HO293.out (fun _ hk => ⟨hk.1.1, ⟨hk.1.2, hk.2⟩⟩)), (by (with_reducible repeat (first | apply Kd.R_alloc | apply Kd.R_drewN | apply Kd.R_drew)); exact Kd.R_mono HO300.out (fun _ hk => ⟨hk.1.1, ⟨hk.1.2, hk.2⟩⟩)), (by (with_reducible repeat (first | apply Kd.R_alloc | apply Kd.R_drewN | apply Kd.R_drew)); exact Kd.R_mono HO305.out (fun _ hk => ⟨hk.1.1, ⟨hk.1.2, hk.2⟩⟩)), (by (with_reducible repeat (first | apply Kd.R_alloc | apply Kd.R_drewN | apply Kd.R_drew)); exact Kd.R_mono HO313.out (fun _ hk => ⟨hk.1.1.2, ⟨hk.1.2, hk.2⟩⟩)), (by (with_reducible repeat (first | refine blk_drewN ?_ _ | refine blk_drew ?_ | refine blk_alloc ?_ _)); exact BK287.out), (by (with_reducible repeat (first | refine blk_drewN ?_ _ | refine blk_drew ?_ | refine blk_alloc ?_ _)); exact BK288.out), (by (with_reducible repeat (first | refine blk_drewN ?_ _ | refine blk_drew ?_ | refine blk_alloc ?_ _)); exact BK301.out), (by (with_reducible repeat (first | refine blk_drewN ?_ _ | refine blk_drew ?_ | refine blk_alloc ?_ _)); exact BK306.out), (by (with_reducible repeat (first | refine blk_drewN ?_ _ | refine blk_drew ?_ | refine blk_alloc ?_ _)); exact BK314.out), GW314.out, GE314.out, NB287_314.out, NB314_287.out, NB288_314.out, NB314_288.out, NB301_314.out, NB314_301.out, NB306_314.out, NB314_306.out, (by repeat (first | (with_reducible first | exact HB.out | apply below_alloc | apply pw_below_drewN | apply below_drew1 | refine below_set ?_ GE287.out | refine below_set ?_ GE288.out | refine below_set ?_ GE301.out | refine below_set ?_ GE306.out | refine below_set ?_ GE314.out) | exact HB.out))⟩)
            ·skip
             refine box_step ?hg (N := 8) ?hd (cs := #[.int .i64 0, .int .i64 0, .slice none 0 0]) (t := 32) ?hr ?_; (case hd => rfl); (case hg => rfl); (case hr => first | (go_simp; done) | (go_simp; rfl))
             intro gb314 hg w64 hbox hb
             have n0_ := Aside0.mk (Kd.R_below (by (with_reducible repeat (first | apply Kd.R_alloc | apply Kd.R_drewN | apply Kd.R_drew)); exact HO293.out) hb)
             have n1_ := Aside0.mk (Kd.R_below (by (with_reducible repeat (first | apply Kd.R_alloc | apply Kd.R_drewN | apply Kd.R_drew)); exact HO300.out) hb)
             have n2_ := Aside0.mk (Kd.R_below (by (with_reducible repeat (first | apply Kd.R_alloc | apply Kd.R_drewN | apply Kd.R_drew)); exact HO305.out) hb)
             have n3_ := Aside0.mk (blkb hb BK287.out)
             have n4_ := Aside0.mk (blkb hb BK288.out)
             have n5_ := Aside0.mk (blkb hb BK301.out)
             have n6_ := Aside0.mk (blkb hb BK306.out)
             have n7_ := Aside0.mk (below_step (by repeat (first | (with_reducible first | exact HB.out | apply below_alloc | apply pw_below_drewN | apply below_drew1 | refine below_set ?_ GE287.out | refine below_set ?_ GE288.out | refine below_set ?_ GE301.out | refine below_set ?_ GE306.out) | exact HB.out)) hb)
             have n8_ := Aside0.mk (hbox)
             have n9_ := Aside0.mk ((by rw [hg]; exact (below_size (by repeat (first | (with_reducible first | exact HB.out | apply below_alloc | apply pw_below_drewN | apply below_drew1 | refine below_set ?_ GE287.out | refine below_set ?_ GE288.out | refine below_set ?_ GE301.out | refine below_set ?_ GE306.out) | exact HB.out))) : w.heap.size ≤ gb314))
             have n10_ := Aside0.mk ((by rw [hg]; exact (below_size (by repeat (first | (with_reducible first | exact HB.out | apply below_alloc | apply pw_below_drewN | apply below_drew1 | refine below_set ?_ GE287.out | refine below_set ?_ GE288.out | refine below_set ?_ GE301.out | refine below_set ?_ GE306.out) | exact HB.out))) : w.heap.size ≤ gb314))
             have n11_ := Aside0.mk ((blkn hg BK287.out))
             have n12_ := Aside0.mk ((blkm hg BK287.out))
             have n13_ := Aside0.mk ((blkn hg BK288.out))
             have n14_ := Aside0.mk ((blkm hg BK288.out))
             have n15_ := Aside0.mk ((blkn hg BK301.out))
             have n16_ := Aside0.mk ((blkm hg BK301.out))
             have n17_ := Aside0.mk ((blkn hg BK306.out))
             have n18_ := Aside0.mk ((blkm hg BK306.out))
             clear HO293
             clear HO300
             clear HO305
             clear BK287
             clear BK288
             clear BK301
             clear BK306
             clear HB
             have HO293 := n0_
             have HO300 := n1_
             have HO305 := n2_
             have BK287 := n3_
             have BK288 := n4_
             have BK301 := n5_
             have BK306 := n6_
             have HB := n7_
             have BK314 := n8_
             have GW314 := n9_
             have GE314 := n10_
             have NB287_314 := n11_
             have NB314_287 := n12_
             have NB288_314 := n13_
             have NB314_288 := n14_
             have NB301_314 := n15_
             have NB314_301 := n16_
             have NB306_314 := n17_
             have NB314_306 := n18_
             clear n0_ n1_ n2_ n3_ n4_ n5_ n6_ n7_ n8_ n9_ n10_ n11_ n12_ n13_ n14_ n15_ n16_ n17_ n18_
             clear hb hbox hg
             refine hK.out _ _ ⟨(blk_cell BK306.out 0).trans rfl, (blk_cell BK306.out 1).trans rfl, (blk_cell BK288.out 0).trans rfl, (blk_cell BK288.out 1).trans rfl⟩ (fun hHeld => ?_)
             clear hK K
             refine norm_ (a' := ?_) ?_ ?_
             rotate_left
             ·show Act.put _ (some 8) _ = _
              simp only [Act.put, List.setIfInBounds_toArray, List.set_cons_zero, List.set_cons_succ, i64_w, i32_w]
              rfl
             refine one_ (i := 2) (N := some 27) #[true, true, true, false, true, false] rfl rfl (by kernel_rfl) (by decide) (fun K hK => ?_)
             refine goes_ Try.func17 (by kernel_rfl) rfl #[.agg #[.int .i64 a1_0, .int .i64 a1_1]] (by rfl) rfl rfl (by (try simp only [List.map_toArray, List.map_cons, List.map_nil]); first | done | rfl | (simp only [List.length_drop, List.length_take]; rfl)) ?_
             with_reducible refine (laws_toPair.calls a1_0 a1_1 t307 t308 _ A14.out).mono ?_
             rintro e w65 ⟨rfl, hb⟩
             refine ⟨_, rfl, ?_⟩
             have n0_ := Aside0.mk (Kd.R_below (by (with_reducible repeat (first | apply Kd.R_alloc | apply Kd.R_drewN | apply Kd.R_drew)); exact HO293.out) hb)
             have n1_ := Aside0.mk (Kd.R_below (by (with_reducible repeat (first | apply Kd.R_alloc | apply Kd.R_drewN | apply Kd.R_drew)); exact HO300.out) hb)
             have n2_ := Aside0.mk (Kd.R_below (by (with_reducible repeat (first | apply Kd.R_alloc | apply Kd.R_drewN | apply Kd.R_drew)); exact HO305.out) hb)
             have n3_ := Aside0.mk (blkb hb BK287.out)
             have n4_ := Aside0.mk (blkb hb BK288.out)
             have n5_ := Aside0.mk (blkb hb BK301.out)
             have n6_ := Aside0.mk (blkb hb BK306.out)
             have n7_ := Aside0.mk (blkb hb BK314.out)
             have n8_ := Aside0.mk (below_step (by repeat (first | (with_reducible first | exact HB.out | apply below_alloc | apply pw_below_drewN | apply below_drew1 | refine below_set ?_ GE287.out | refine below_set ?_ GE288.out | refine below_set ?_ GE301.out | refine below_set ?_ GE306.out | refine below_set ?_ GE314.out) | exact HB.out)) hb)
             clear HO293
             clear HO300
             clear HO305
             clear BK287
             clear BK288
             clear BK301
             clear BK306
             clear BK314
             clear HB
             have HO293 := n0_
             have HO300 := n1_
             have HO305 := n2_
             have BK287 := n3_
             have BK288 := n4_
             have BK301 := n5_
             have BK306 := n6_
             have BK314 := n7_
             have HB := n8_
             clear n0_ n1_ n2_ n3_ n4_ n5_ n6_ n7_ n8_
             (try clear hb)
             (try clear hb2)
             (try clear hk)
             (try clear hi)
             refine hK.out _ _ ⟨(blk_cell BK306.out 0).trans rfl, (blk_cell BK306.out 1).trans rfl, (blk_cell BK288.out 0).trans rfl, (blk_cell BK288.out 1).trans rfl⟩ (fun hHeld => ?_)
             clear hK K
             refine norm_ (a' := ?_) ?_ ?_
             rotate_left
             ·show Act.put _ (some 27) _ = _
              simp only [Act.put, List.setIfInBounds_toArray, List.set_cons_zero, List.set_cons_succ, i64_w, i32_w]
              rfl
             refine one_ (i := 3) (N := some 28) #[true, true, true, true, true, false] rfl rfl (by kernel_rfl) (by decide) (fun K hK => ?_)
             refine goes_ Try.func9 (by kernel_rfl) rfl #[.agg #[.int .i64 t302, .slice Ao61 t303.length co61], .agg #[.int .i64 t307, .int .i64 t308]] (by rfl) rfl rfl (by (try simp only [List.map_toArray, List.map_cons, List.map_nil]); first | done | rfl | (simp only [List.length_drop, List.length_take]; rfl)) ?_
             with_reducible refine (impl_PutPair.calls k t302 _ _ t303 t307 t308 t309 t310 t311 _ ?side1 ?side2 A15.out).mono ?_
             (case side1 => repeat (first | exact (Kd.R_reads' HO305.out).2.2 | (with_reducible refine Kd.C_alloc ?_ _) | (with_reducible refine Kd.C_drewN ?_ _) | (with_reducible refine Kd.C_drew ?_)))
             (case side2 => exact (Kd.R_reads' HO305.out).2.1)
             rintro e w66 ⟨v312, rfl, ho0, hb⟩
             refine ⟨_, rfl, ?_⟩
             have n0_ := Aside0.mk (Kd.R_elder' (by (with_reducible repeat (first | apply Kd.R_alloc | apply Kd.R_drewN | apply Kd.R_drew)); exact HO293.out) (Kd.R_base ho0) hb)
             have n1_ := Aside0.mk (Kd.R_elder' (by (with_reducible repeat (first | apply Kd.R_alloc | apply Kd.R_drewN | apply Kd.R_drew)); exact HO300.out) (Kd.R_base ho0) hb)
             have n2_ := Aside0.mk (Kd.R_elder' (by (with_reducible repeat (first | apply Kd.R_alloc | apply Kd.R_drewN | apply Kd.R_drew)); exact HO305.out) (Kd.R_base ho0) hb)
             have n3_ := Aside0.mk (Kd.R_lower (Kd.R_new' (Kd.R_new' (Kd.R_new' ho0 (Kd.R_lt (by (with_reducible repeat (first | apply Kd.R_alloc | apply Kd.R_drewN | apply Kd.R_drew)); exact HO293.out))) (Kd.R_lt (by (with_reducible repeat (first | apply Kd.R_alloc | apply Kd.R_drewN | apply Kd.R_drew)); exact HO300.out))) (Kd.R_lt (by (with_reducible repeat (first | apply Kd.R_alloc | apply Kd.R_drewN | apply Kd.R_drew)); exact HO305.out))) (below_size (by repeat (first | (with_reducible first | exact HB.out | apply below_alloc | apply pw_below_drewN | apply below_drew1 | refine below_set ?_ GE287.out | refine below_set ?_ GE288.out | refine below_set ?_ GE301.out | refine below_set ?_ GE306.out | refine below_set ?_ GE314.out) | exact HB.out))))
             have n4_ := Aside0.mk (blkb hb BK287.out)
             have n5_ := Aside0.mk (blkb hb BK288.out)
             have n6_ := Aside0.mk (blkb hb BK301.out)
             have n7_ := Aside0.mk (blkb hb BK306.out)
             have n8_ := Aside0.mk (blkb hb BK314.out)
             have n9_ := Aside0.mk (below_step (by repeat (first | (with_reducible first | exact HB.out | apply below_alloc | apply pw_below_drewN | apply below_drew1 | refine below_set ?_ GE287.out | refine below_set ?_ GE288.out | refine below_set ?_ GE301.out | refine below_set ?_ GE306.out | refine below_set ?_ GE314.out) | exact HB.out)) hb)
             clear HO293
             clear HO300
             clear HO305
             clear BK287
             clear BK288
             clear BK301
             clear BK306
             clear BK314
             clear HB
             have HO293 := n0_
             have HO300 := n1_
             have HO305 := n2_
             have HO313 := n3_
             have BK287 := n4_
             have BK288 := n5_
             have BK301 := n6_
             have BK306 := n7_
             have BK314 := n8_
             have HB := n9_
             clear n0_ n1_ n2_ n3_ n4_ n5_ n6_ n7_ n8_ n9_
             (try clear hb)
             (try clear hb2)
             (try clear hk)
             (try clear hi)
             (try clear ho0)
             refine hK.out _ _ ⟨(blk_cell BK306.out 0).trans rfl, (blk_cell BK306.out 1).trans rfl, (blk_cell BK288.out 0).trans rfl, (blk_cell BK288.out 1).trans rfl⟩ (fun hHeld => ?_)
             clear hK K
             refine norm_ (a' := ?_) ?_ ?_
             rotate_left
             ·show Act.put _ (some 28) _ = _
              simp only [Act.put, List.setIfInBounds_toArray, List.set_cons_zero, List.set_cons_succ, i64_w, i32_w]
              rfl
             exact norm_ (by simp only [putAll, Act.put, List.setIfInBounds_toArray, List.set_cons_zero, List.set_cons_succ]) (hCont (v312, gb314) _ ⟨hHeld, (by (with_reducible repeat (first | apply Kd.R_alloc | apply Kd.R_drewN | apply Kd.R_drew)); exact Kd.R_mono HO293.out (fun _ hk => ⟨hk.1.1, ⟨hk.1.2, hk.2⟩⟩)), (by (with_reducible repeat (first | apply Kd.R_alloc | apply Kd.R_drewN | apply Kd.R_drew)); exact Kd.R_mono HO300.out (fun _ hk => ⟨hk.1.1, ⟨hk.1.2, hk.2⟩⟩)), (by (with_reducible repeat (first | apply Kd.R_alloc | apply Kd.R_drewN | apply Kd.R_drew)); exact Kd.R_mono HO305.out (fun _ hk => ⟨hk.1.1, ⟨hk.1.2, hk.2⟩⟩)), (by (with_reducible repeat (first | apply Kd.R_alloc | apply Kd.R_drewN | apply Kd.R_drew)); exact Kd.R_mono HO313.out (fun _ hk => ⟨hk.1.1.2, ⟨hk.1.2, hk.2⟩⟩)), (by (with_reducible repeat (first | refine blk_drewN ?_ _ | refine blk_drew ?_ | refine blk_alloc ?_ _)); exact BK287.out), (by (with_reducible repeat (first | refine blk_drewN ?_ _ | refine blk_drew ?_ | refine blk_alloc ?_ _)); exact BK288.out), (by (with_reducible repeat (first | refine blk_drewN ?_ _ | refine blk_drew ?_ | refine blk_alloc ?_ _)); exact BK301.out), (by (with_reducible repeat (first | refine blk_drewN ?_ _ | refine blk_drew ?_ | refine blk_alloc ?_ _)); exact BK306.out), (by (with_reducible repeat (first | refine blk_drewN ?_ _ | refine blk_drew ?_ | refine blk_alloc ?_ _)); exact BK314.out), GW314.out, GE314.out, NB287_314.out, NB314_287.out, NB288_314.out, NB314_288.out, NB301_314.out, NB314_301.out, NB306_314.out, NB314_306.out, (by repeat (first | (with_reducible first | exact HB.out | apply below_alloc | apply pw_below_drewN | apply below_drew1 | refine below_set ?_ GE287.out | refine below_set ?_ GE288.out | refine below_set ?_ GE301.out | refine below_set ?_ GE306.out | refine below_set ?_ GE314.out) | exact HB.out))⟩)
           rintro ⟨v312, gb314⟩ w67 ⟨hS_, h0_, h1_, h2_, h3_, h4_, h5_, h6_, h7_, h8_, h9_, h10_, h11_, h12_, h13_, h14_, h15_, h16_, h17_, h18_, h19_⟩
           have n0_ : Aside0 (Kd.R k28 28 w67 w.heap.size (fun k_ => some k_ ≠ (.slice Ao51 t298.length co51 : Value).ownBlock ∧ some k_ ≠ (.slice Ao61 t303.length co61 : Value).ownBlock ∧ some k_ ≠ (v312 : Value).ownBlock) v292 t291) := ⟨h0_⟩
           have n1_ : Aside0 (Kd.R k28 28 w67 w.heap.size (fun k_ => some k_ ≠ (v292 : Value).ownBlock ∧ some k_ ≠ (.slice Ao61 t303.length co61 : Value).ownBlock ∧ some k_ ≠ (v312 : Value).ownBlock) (.slice Ao51 t298.length co51) t298) := ⟨h1_⟩
           have n2_ : Aside0 (Kd.R k28 28 w67 w.heap.size (fun k_ => some k_ ≠ (v292 : Value).ownBlock ∧ some k_ ≠ (.slice Ao51 t298.length co51 : Value).ownBlock ∧ some k_ ≠ (v312 : Value).ownBlock) (.slice Ao61 t303.length co61) t303) := ⟨h2_⟩
           have n3_ : Aside0 (Kd.R k28 28 w67 w.heap.size (fun k_ => some k_ ≠ (v292 : Value).ownBlock ∧ some k_ ≠ (.slice Ao51 t298.length co51 : Value).ownBlock ∧ some k_ ≠ (.slice Ao61 t303.length co61 : Value).ownBlock) v312 t311) := ⟨h3_⟩
           have n4_ : Aside0 (w67.heap[gb287]? = some (.cells #[.int .i64 a0_0, .slice A0_1 l0_1.length c0_1] 41 (0, 0))) := ⟨h4_⟩
           have n5_ : Aside0 (w67.heap[gb288]? = some (.cells #[.int .i64 a1_0, .int .i64 a1_1] 42 (0, 0))) := ⟨h5_⟩
           have n6_ : Aside0 (w67.heap[gb301]? = some (.cells #[.int .i64 t296, .int .i64 t297, .slice Ao51 t298.length co51] 32 (0, 0))) := ⟨h6_⟩
           have n7_ : Aside0 (w67.heap[gb306]? = some (.cells #[.int .i64 t302, .slice Ao61 t303.length co61] 26 (0, 0))) := ⟨h7_⟩
           have n8_ : Aside0 (w67.heap[gb314]? = some (.cells #[.int .i64 0, .int .i64 0, .slice none 0 0] 32 (0, 0))) := ⟨h8_⟩
           have n9_ : Aside0 (w.heap.size ≤ gb314) := ⟨h9_⟩
           have n10_ : Aside0 (w.heap.size ≤ gb314) := ⟨h10_⟩
           have n11_ : Aside0 (gb287 ≠ gb314) := ⟨h11_⟩
           have n12_ : Aside0 (gb314 ≠ gb287) := ⟨h12_⟩
           have n13_ : Aside0 (gb288 ≠ gb314) := ⟨h13_⟩
           have n14_ : Aside0 (gb314 ≠ gb288) := ⟨h14_⟩
           have n15_ : Aside0 (gb301 ≠ gb314) := ⟨h15_⟩
           have n16_ : Aside0 (gb314 ≠ gb301) := ⟨h16_⟩
           have n17_ : Aside0 (gb306 ≠ gb314) := ⟨h17_⟩
           have n18_ : Aside0 (gb314 ≠ gb306) := ⟨h18_⟩
           have n19_ : Aside0 (Below w.heap.size w w67) := ⟨h19_⟩
           clear HO293
           clear HO300
           clear HO305
           clear BK287
           clear BK288
           clear BK301
           clear BK306
           clear HB
           clear h0_ h1_ h2_ h3_ h4_ h5_ h6_ h7_ h8_ h9_ h10_ h11_ h12_ h13_ h14_ h15_ h16_ h17_ h18_ h19_
           have HO293 := n0_
           have HO300 := n1_
           have HO305 := n2_
           have HO313 := n3_
           have BK287 := n4_
           have BK288 := n5_
           have BK301 := n6_
           have BK306 := n7_
           have BK314 := n8_
           have GW314 := n9_
           have GE314 := n10_
           have NB287_314 := n11_
           have NB314_287 := n12_
           have NB288_314 := n13_
           have NB314_288 := n14_
           have NB301_314 := n15_
           have NB314_301 := n16_
           have NB306_314 := n17_
           have NB314_306 := n18_
           have HB := n19_
           clear n0_ n1_ n2_ n3_ n4_ n5_ n6_ n7_ n8_ n9_ n10_ n11_ n12_ n13_ n14_ n15_ n16_ n17_ n18_ n19_
           have hHeld : w67.cell? ⟨gb306, 0, none⟩ = some (.int .i64 t302) ∧ w67.cell? ⟨gb306, 1, none⟩ = some (.slice Ao61 t303.length co61) ∧ w67.cell? ⟨gb288, 0, none⟩ = some (.int .i64 a1_0) ∧ w67.cell? ⟨gb288, 1, none⟩ = some (.int .i64 a1_1) := hS_
           obtain ⟨Ao70, co70, eo70⟩ := Kd.R_slice HO313.out
           (first | subst eo70 | (injection eo70 with f1_ f2_ f3_; have f4_ := f1_.symm; have f5_ := f3_.symm; clear f1_ f2_ f3_; subst f4_; subst f5_))
           refine norm_ (a' := ?_) ?_ ?_
           rotate_left
           ·simp only [putAll, Act.put, List.setIfInBounds_toArray, List.set_cons_zero, List.set_cons_succ]
            rfl
           refine one_ (i := 5) (N := none) #[true, true, true, true, true, true] rfl rfl (by kernel_rfl) (by decide) (fun K hK => ?_)
           have hs68 : w67.cell? ⟨gb314, 0, none⟩ = some (.int .i64 0) := (blk_cell BK314.out 0).trans rfl
           have hfs68 := blk_frozen BK314.out 0
           have hns68_0 := NB287_314.out
           have hns68_1 := NB288_314.out
           have hns68_2 := NB301_314.out
           have hns68_3 := NB306_314.out
           have hms68_0 := NB314_287.out
           have hms68_1 := NB314_288.out
           have hms68_2 := NB314_301.out
           have hms68_3 := NB314_306.out
           have hs69 : w67.cell? ⟨gb314, 1, none⟩ = some (.int .i64 0) := (blk_cell BK314.out 1).trans rfl
           have hfs69 := blk_frozen BK314.out 1
           have hns69_0 := NB287_314.out
           have hns69_1 := NB288_314.out
           have hns69_2 := NB301_314.out
           have hns69_3 := NB306_314.out
           have hms69_0 := NB314_287.out
           have hms69_1 := NB314_288.out
           have hms69_2 := NB314_301.out
           have hms69_3 := NB314_306.out
           have hs71 : w67.cell? ⟨gb314, 2, none⟩ = some (.slice none 0 0) := (blk_cell BK314.out 2).trans rfl
           have hfs71 := blk_frozen BK314.out 2
           have hns71_0 := NB287_314.out
           have hns71_1 := NB288_314.out
           have hns71_2 := NB301_314.out
           have hns71_3 := NB306_314.out
           have hms71_0 := NB314_287.out
           have hms71_1 := NB314_288.out
           have hms71_2 := NB314_301.out
           have hms71_3 := NB314_306.out
           refine skip_ (w1 := ?_) (by rfl) rfl ?_ ?_
           rotate_left
           ·go_simp
            rfl
           refine hK.out _ _ ⟨((cell_far (p := ⟨gb314, _, none⟩) NB306_314.out _).trans (((cell_far (p := ⟨gb314, _, none⟩) NB306_314.out _).trans (((cell_far (p := ⟨gb314, _, none⟩) NB306_314.out _).trans (hHeld.1)))))), ((cell_far (p := ⟨gb314, _, none⟩) NB306_314.out _).trans (((cell_far (p := ⟨gb314, _, none⟩) NB306_314.out _).trans (((cell_far (p := ⟨gb314, _, none⟩) NB306_314.out _).trans (hHeld.2.1)))))), ((cell_far (p := ⟨gb314, _, none⟩) NB288_314.out _).trans (((cell_far (p := ⟨gb314, _, none⟩) NB288_314.out _).trans (((cell_far (p := ⟨gb314, _, none⟩) NB288_314.out _).trans (hHeld.2.2.1)))))), ((cell_far (p := ⟨gb314, _, none⟩) NB288_314.out _).trans (((cell_far (p := ⟨gb314, _, none⟩) NB288_314.out _).trans (((cell_far (p := ⟨gb314, _, none⟩) NB288_314.out _).trans (hHeld.2.2.2))))))⟩ (fun hHeld => ?_)
           clear hK K
           refine done_ (by kernel_rfl) ?_
           have hnb72 := NB314_287.out
           have hnc72 := NB287_314.out
           have hnb73 := NB314_288.out
           have hnc73 := NB288_314.out
           have hnb74 := NB314_301.out
           have hnc74 := NB301_314.out
           have hnb75 := NB314_306.out
           have hnc75 := NB306_314.out
           have hcz76_0 : w67.cell? ⟨gb314, 0, none⟩ = some (.int .i64 0) := (blk_cell BK314.out 0).trans rfl
           have hcz76_1 : w67.cell? ⟨gb314, 1, none⟩ = some (.int .i64 0) := (blk_cell BK314.out 1).trans rfl
           have hcz76_2 : w67.cell? ⟨gb314, 2, none⟩ = some (.slice none 0 0) := (blk_cell BK314.out 2).trans rfl
           have hfz76_0 := blk_frozen BK314.out 0
           have hfz76_1 := blk_frozen BK314.out 1
           have hfz76_2 := blk_frozen BK314.out 2
           have hnb77 := NB301_288.out
           have hnc77 := NB288_301.out
           have hcz78_0 : w67.cell? ⟨gb301, 0, none⟩ = some (.int .i64 t296) := (blk_cell BK301.out 0).trans rfl
           have hcz78_1 : w67.cell? ⟨gb301, 1, none⟩ = some (.int .i64 t297) := (blk_cell BK301.out 1).trans rfl
           have hcz78_2 : w67.cell? ⟨gb301, 2, none⟩ = some (.slice Ao51 t298.length co51) := (blk_cell BK301.out 2).trans rfl
           have hfz78_0 := blk_frozen BK301.out 0
           have hfz78_1 := blk_frozen BK301.out 1
           have hfz78_2 := blk_frozen BK301.out 2
           try go_wp2_with (first | ((with_reducible refine gate_callee (f := 18) rfl ?_); refine goesL_ (some 31) rfl rfl Try.func18 (by kernel_rfl) rfl #[.agg #[.int .i64 t309, .int .i64 t310, .slice Ao70 t311.length co70], .agg #[.int .i64 t296, .int .i64 t297, .slice Ao51 t298.length co51]] rfl (by (try simp only [List.map_toArray, List.map_cons, List.map_nil]); first | done | rfl | (simp only [List.length_drop, List.length_take]; rfl)) ?_; (with_reducible refine (laws_eqFontResult.calls k t309 t310 _ _ t311 t296 t297 _ _ t298  _ ?side1 ?side2 ?side3 ?side4 A16.out).mono ?_); (case side1 => refine (Kd.R_reads' (e := 28) (base := w.heap.size) (ok := fun k_ => (some k_ ≠ (v292 : Value).ownBlock ∧ (some k_ ≠ (.slice Ao51 t298.length co51 : Value).ownBlock ∧ some k_ ≠ (.slice Ao61 t303.length co61 : Value).ownBlock))) (n := t311.length) (c := co70) ?_).2.2; exact (by (with_reducible repeat (first | apply Kd.R_alloc | apply Kd.R_drewN | apply Kd.R_drew)); exact (Kd.R_mono (Kd.R_far (p := ⟨gb314, 2, none⟩) (Kd.R_far (p := ⟨gb314, 1, none⟩) (Kd.R_far (p := ⟨gb314, 0, none⟩) (Kd.R_types HO313.out BK314.out (by decide)) (fun _ hk => hk.2) (.int .i64 t309)) (fun _ hk => hk.2) (.int .i64 t310)) (fun _ hk => hk.2) (.slice Ao70 t311.length co70)) (fun _ h_ => h_.1)))); (case side2 => exact (Kd.R_reads' HO313.out).2.1); (case side3 => refine (Kd.R_reads' (e := 28) (base := w.heap.size) (ok := fun k_ => (some k_ ≠ (v292 : Value).ownBlock ∧ (some k_ ≠ (.slice Ao61 t303.length co61 : Value).ownBlock ∧ some k_ ≠ (.slice Ao70 t311.length co70 : Value).ownBlock))) (n := t298.length) (c := co51) ?_).2.2; exact (by (with_reducible repeat (first | apply Kd.R_alloc | apply Kd.R_drewN | apply Kd.R_drew)); exact (Kd.R_mono (Kd.R_far (p := ⟨gb314, 2, none⟩) (Kd.R_far (p := ⟨gb314, 1, none⟩) (Kd.R_far (p := ⟨gb314, 0, none⟩) (Kd.R_types HO300.out BK314.out (by decide)) (fun _ hk => hk.2) (.int .i64 t309)) (fun _ hk => hk.2) (.int .i64 t310)) (fun _ hk => hk.2) (.slice Ao70 t311.length co70)) (fun _ h_ => h_.1)))); (case side4 => exact (Kd.R_reads' HO300.out).2.1); rintro e w79 ⟨rfl, hb⟩; refine ⟨_, rfl, ?_⟩; have n0_ := Aside0.mk (Kd.R_below (by (with_reducible repeat (first | apply Kd.R_alloc | apply Kd.R_drewN | apply Kd.R_drew)); exact (Kd.R_mono (Kd.R_far (p := ⟨gb314, 2, none⟩) (Kd.R_far (p := ⟨gb314, 1, none⟩) (Kd.R_far (p := ⟨gb314, 0, none⟩) (Kd.R_types HO293.out BK314.out (by decide)) (fun _ hk => hk.2) (.int .i64 t309)) (fun _ hk => hk.2) (.int .i64 t310)) (fun _ hk => hk.2) (.slice Ao70 t311.length co70)) (fun _ h_ => h_.1))) hb); have n1_ := Aside0.mk (Kd.R_below (by (with_reducible repeat (first | apply Kd.R_alloc | apply Kd.R_drewN | apply Kd.R_drew)); exact (Kd.R_mono (Kd.R_far (p := ⟨gb314, 2, none⟩) (Kd.R_far (p := ⟨gb314, 1, none⟩) (Kd.R_far (p := ⟨gb314, 0, none⟩) (Kd.R_types HO300.out BK314.out (by decide)) (fun _ hk => hk.2) (.int .i64 t309)) (fun _ hk => hk.2) (.int .i64 t310)) (fun _ hk => hk.2) (.slice Ao70 t311.length co70)) (fun _ h_ => h_.1))) hb); have n2_ := Aside0.mk (Kd.R_below (by (with_reducible repeat (first | apply Kd.R_alloc | apply Kd.R_drewN | apply Kd.R_drew)); exact (Kd.R_mono (Kd.R_far (p := ⟨gb314, 2, none⟩) (Kd.R_far (p := ⟨gb314, 1, none⟩) (Kd.R_far (p := ⟨gb314, 0, none⟩) (Kd.R_types HO305.out BK314.out (by decide)) (fun _ hk => hk.2) (.int .i64 t309)) (fun _ hk => hk.2) (.int .i64 t310)) (fun _ hk => hk.2) (.slice Ao70 t311.length co70)) (fun _ h_ => h_.1))) hb); have n3_ := Aside0.mk (Kd.R_below (by (with_reducible repeat (first | apply Kd.R_alloc | apply Kd.R_drewN | apply Kd.R_drew)); exact (Kd.R_mono (Kd.R_far (p := ⟨gb314, 2, none⟩) (Kd.R_far (p := ⟨gb314, 1, none⟩) (Kd.R_far (p := ⟨gb314, 0, none⟩) (Kd.R_types HO313.out BK314.out (by decide)) (fun _ hk => hk.2) (.int .i64 t309)) (fun _ hk => hk.2) (.int .i64 t310)) (fun _ hk => hk.2) (.slice Ao70 t311.length co70)) (fun _ h_ => h_.1))) hb); have n4_ := Aside0.mk (blk_below (g := gb287) (o := .cells #[.int .i64 a0_0, .slice A0_1 l0_1.length c0_1] 41 (0, 0)) (by (with_reducible repeat (first | refine blk_drewN ?_ _ | refine blk_drew ?_ | refine blk_alloc ?_ _)); refine blk_far ?_ NB287_314.out _; (with_reducible repeat (first | refine blk_drewN ?_ _ | refine blk_drew ?_ | refine blk_alloc ?_ _)); refine blk_far ?_ NB287_314.out _; (with_reducible repeat (first | refine blk_drewN ?_ _ | refine blk_drew ?_ | refine blk_alloc ?_ _)); refine blk_far ?_ NB287_314.out _; (with_reducible repeat (first | refine blk_drewN ?_ _ | refine blk_drew ?_ | refine blk_alloc ?_ _)); exact BK287.out) hb); have n5_ := Aside0.mk (blk_below (g := gb288) (o := .cells #[.int .i64 a1_0, .int .i64 a1_1] 42 (0, 0)) (by (with_reducible repeat (first | refine blk_drewN ?_ _ | refine blk_drew ?_ | refine blk_alloc ?_ _)); refine blk_far ?_ NB288_314.out _; (with_reducible repeat (first | refine blk_drewN ?_ _ | refine blk_drew ?_ | refine blk_alloc ?_ _)); refine blk_far ?_ NB288_314.out _; (with_reducible repeat (first | refine blk_drewN ?_ _ | refine blk_drew ?_ | refine blk_alloc ?_ _)); refine blk_far ?_ NB288_314.out _; (with_reducible repeat (first | refine blk_drewN ?_ _ | refine blk_drew ?_ | refine blk_alloc ?_ _)); exact BK288.out) hb); have n6_ := Aside0.mk (blk_below (g := gb301) (o := .cells #[.int .i64 t296, .int .i64 t297, .slice Ao51 t298.length co51] 32 (0, 0)) (by (with_reducible repeat (first | refine blk_drewN ?_ _ | refine blk_drew ?_ | refine blk_alloc ?_ _)); refine blk_far ?_ NB301_314.out _; (with_reducible repeat (first | refine blk_drewN ?_ _ | refine blk_drew ?_ | refine blk_alloc ?_ _)); refine blk_far ?_ NB301_314.out _; (with_reducible repeat (first | refine blk_drewN ?_ _ | refine blk_drew ?_ | refine blk_alloc ?_ _)); refine blk_far ?_ NB301_314.out _; (with_reducible repeat (first | refine blk_drewN ?_ _ | refine blk_drew ?_ | refine blk_alloc ?_ _)); exact BK301.out) hb); have n7_ := Aside0.mk (blk_below (g := gb306) (o := .cells #[.int .i64 t302, .slice Ao61 t303.length co61] 26 (0, 0)) (by (with_reducible repeat (first | refine blk_drewN ?_ _ | refine blk_drew ?_ | refine blk_alloc ?_ _)); refine blk_far ?_ NB306_314.out _; (with_reducible repeat (first | refine blk_drewN ?_ _ | refine blk_drew ?_ | refine blk_alloc ?_ _)); refine blk_far ?_ NB306_314.out _; (with_reducible repeat (first | refine blk_drewN ?_ _ | refine blk_drew ?_ | refine blk_alloc ?_ _)); refine blk_far ?_ NB306_314.out _; (with_reducible repeat (first | refine blk_drewN ?_ _ | refine blk_drew ?_ | refine blk_alloc ?_ _)); exact BK306.out) hb); have n8_ := Aside0.mk (blk_below (g := gb314) (o := .cells #[.int .i64 t309, .int .i64 t310, .slice Ao70 t311.length co70] 32 (0, 0)) (by (with_reducible repeat (first | refine blk_drewN ?_ _ | refine blk_drew ?_ | refine blk_alloc ?_ _)); refine blk_put (cs := #[.int .i64 t309, .int .i64 t310, .slice none 0 0]) ?_ 2 _ rfl; (with_reducible repeat (first | refine blk_drewN ?_ _ | refine blk_drew ?_ | refine blk_alloc ?_ _)); refine blk_put (cs := #[.int .i64 t309, .int .i64 0, .slice none 0 0]) ?_ 1 _ rfl; (with_reducible repeat (first | refine blk_drewN ?_ _ | refine blk_drew ?_ | refine blk_alloc ?_ _)); refine blk_put (cs := #[.int .i64 0, .int .i64 0, .slice none 0 0]) ?_ 0 _ rfl; (with_reducible repeat (first | refine blk_drewN ?_ _ | refine blk_drew ?_ | refine blk_alloc ?_ _)); exact BK314.out) hb); have n9_ := Aside0.mk (below_step (by repeat (first | (with_reducible first | exact HB.out | apply below_alloc | apply pw_below_drewN | apply below_drew1 | refine below_set ?_ GE287.out | refine below_set ?_ GE288.out | refine below_set ?_ GE301.out | refine below_set ?_ GE306.out | refine below_set ?_ GE314.out) | exact HB.out)) hb); clear HO293; clear HO300; clear HO305; clear HO313; clear BK287; clear BK288; clear BK301; clear BK306; clear BK314; clear HB; have HO293 := n0_; have HO300 := n1_; have HO305 := n2_; have HO313 := n3_; have BK287 := n4_; have BK288 := n5_; have BK301 := n6_; have BK306 := n7_; have BK314 := n8_; have HB := n9_; clear n0_ n1_ n2_ n3_ n4_ n5_ n6_ n7_ n8_ n9_; (try clear hb); (try clear hb2); (try clear hk); (try clear hi)))
           have n0_ := Aside0.mk (Kd.R_drew HO293.out)
           have n1_ := Aside0.mk (Kd.R_drew HO300.out)
           have n2_ := Aside0.mk (Kd.R_drew HO305.out)
           have n3_ := Aside0.mk (Kd.R_drew HO313.out)
           have n4_ := Aside0.mk (blk_drew BK287.out)
           have n5_ := Aside0.mk (blk_drew BK288.out)
           have n6_ := Aside0.mk (blk_drew BK301.out)
           have n7_ := Aside0.mk (blk_drew BK306.out)
           have n8_ := Aside0.mk (blk_drew BK314.out)
           have n9_ := Aside0.mk (below_drew1 HB.out)
           clear HO293
           clear HO300
           clear HO305
           clear HO313
           clear BK287
           clear BK288
           clear BK301
           clear BK306
           clear BK314
           clear HB
           have HO293 := n0_
           have HO300 := n1_
           have HO305 := n2_
           have HO313 := n3_
           have BK287 := n4_
           have BK288 := n5_
           have BK301 := n6_
           have BK306 := n7_
           have BK314 := n8_
           have HB := n9_
           clear n0_ n1_ n2_ n3_ n4_ n5_ n6_ n7_ n8_ n9_
           refine start_ (n := 5) (S := fun w' => w'.cell? ⟨gb306, 0, none⟩ = some (.int .i64 t302) ∧ w'.cell? ⟨gb306, 1, none⟩ = some (.slice Ao61 t303.length co61) ∧ w'.cell? ⟨gb287, 0, none⟩ = some (.int .i64 a0_0) ∧ w'.cell? ⟨gb287, 1, none⟩ = some (.slice A0_1 l0_1.length c0_1)) (ds := []) #[false, false, false, false, false] (by kernel_rfl) rfl rfl ⟨(blk_cell BK306.out 0).trans rfl, (blk_cell BK306.out 1).trans rfl, (blk_cell BK287.out 0).trans rfl, (blk_cell BK287.out 1).trans rfl⟩ (fun hHeld => ?_)
           generalize w79.drew = w80 at HO293 HO300 HO305 HO313 BK287 BK288 BK301 BK306 BK314 HB hHeld ⊢
           refine take_ (i := 0) (N := some 33) (v := ?_) (a' := ?_) #[true, false, false, false, false] rfl rfl (by kernel_rfl) (fun _ _ _ h => h) (Or.inl ⟨by rfl, ?_⟩) hHeld ?_ ?_
           rotate_left
           ·rintro w' ⟨s0, s1, s2, s3⟩
            go_simp
            with_reducible rfl
           rotate_left
           ·simp only [Act.put, List.setIfInBounds_toArray, List.set_cons_zero, List.set_cons_succ, i64_w, i32_w]
            rfl
           refine take_ (i := 1) (N := some 34) (v := ?_) (a' := ?_) #[true, true, false, false, false] rfl rfl (by kernel_rfl) (fun _ _ _ h => h) (Or.inl ⟨by rfl, ?_⟩) hHeld ?_ ?_
           rotate_left
           ·rintro w' ⟨s0, s1, s2, s3⟩
            go_simp
            with_reducible rfl
           rotate_left
           ·simp only [Act.put, List.setIfInBounds_toArray, List.set_cons_zero, List.set_cons_succ, i64_w, i32_w]
            rfl
           refine one_ (i := 2) (N := some 35) #[true, true, true, false, false] rfl rfl (by kernel_rfl) (by decide) (fun K hK => ?_)
           refine goes_ Try.func16 (by kernel_rfl) rfl #[.agg #[.int .i64 a0_0, .slice A0_1 l0_1.length c0_1]] (by rfl) rfl rfl (by (try simp only [List.map_toArray, List.map_cons, List.map_nil]); first | done | rfl | (simp only [List.length_drop, List.length_take]; rfl)) ?_
           with_reducible refine (laws_toFont.calls k a0_0 _ _ l0_1 t316 t317 _ ?side1 ?side2 A18.out).mono ?_
           (case side1 => repeat (first | exact (Kd.C_below HR0_1.out HB.out) | (with_reducible refine Kd.C_alloc ?_ _) | (with_reducible refine Kd.C_drewN ?_ _) | (with_reducible refine Kd.C_drew ?_)))
           (case side2 => exact HC0_1.out)
           rintro e w81 ⟨v318, rfl, ho0, hb⟩
           refine ⟨_, rfl, ?_⟩
           have n0_ := Aside0.mk (Kd.R_elder' (by (with_reducible repeat (first | apply Kd.R_alloc | apply Kd.R_drewN | apply Kd.R_drew)); exact HO293.out) (Kd.R_base ho0) hb)
           have n1_ := Aside0.mk (Kd.R_elder' (by (with_reducible repeat (first | apply Kd.R_alloc | apply Kd.R_drewN | apply Kd.R_drew)); exact HO300.out) (Kd.R_base ho0) hb)
           have n2_ := Aside0.mk (Kd.R_elder' (by (with_reducible repeat (first | apply Kd.R_alloc | apply Kd.R_drewN | apply Kd.R_drew)); exact HO305.out) (Kd.R_base ho0) hb)
           have n3_ := Aside0.mk (Kd.R_elder' (by (with_reducible repeat (first | apply Kd.R_alloc | apply Kd.R_drewN | apply Kd.R_drew)); exact HO313.out) (Kd.R_base ho0) hb)
           have n4_ := Aside0.mk (Kd.R_lower (Kd.R_new' (Kd.R_new' (Kd.R_new' (Kd.R_new' ho0 (Kd.R_lt (by (with_reducible repeat (first | apply Kd.R_alloc | apply Kd.R_drewN | apply Kd.R_drew)); exact HO293.out))) (Kd.R_lt (by (with_reducible repeat (first | apply Kd.R_alloc | apply Kd.R_drewN | apply Kd.R_drew)); exact HO300.out))) (Kd.R_lt (by (with_reducible repeat (first | apply Kd.R_alloc | apply Kd.R_drewN | apply Kd.R_drew)); exact HO305.out))) (Kd.R_lt (by (with_reducible repeat (first | apply Kd.R_alloc | apply Kd.R_drewN | apply Kd.R_drew)); exact HO313.out))) (below_size (by repeat (first | (with_reducible first | exact HB.out | apply below_alloc | apply pw_below_drewN | apply below_drew1 | refine below_set ?_ GE287.out | refine below_set ?_ GE288.out | refine below_set ?_ GE301.out | refine below_set ?_ GE306.out | refine below_set ?_ GE314.out) | exact HB.out))))
           have n5_ := Aside0.mk (blkb hb BK287.out)
           have n6_ := Aside0.mk (blkb hb BK288.out)
           have n7_ := Aside0.mk (blkb hb BK301.out)
           have n8_ := Aside0.mk (blkb hb BK306.out)
           have n9_ := Aside0.mk (blkb hb BK314.out)
           have n10_ := Aside0.mk (below_step (by repeat (first | (with_reducible first | exact HB.out | apply below_alloc | apply pw_below_drewN | apply below_drew1 | refine below_set ?_ GE287.out | refine below_set ?_ GE288.out | refine below_set ?_ GE301.out | refine below_set ?_ GE306.out | refine below_set ?_ GE314.out) | exact HB.out)) hb)
           clear HO293
           clear HO300
           clear HO305
           clear HO313
           clear BK287
           clear BK288
           clear BK301
           clear BK306
           clear BK314
           clear HB
           have HO293 := n0_
           have HO300 := n1_
           have HO305 := n2_
           have HO313 := n3_
           have HO319 := n4_
           have BK287 := n5_
           have BK288 := n6_
           have BK301 := n7_
           have BK306 := n8_
           have BK314 := n9_
           have HB := n10_
           clear n0_ n1_ n2_ n3_ n4_ n5_ n6_ n7_ n8_ n9_ n10_
           (try clear hb)
           (try clear hb2)
           (try clear hk)
           (try clear hi)
           (try clear ho0)
           obtain ⟨Ao82, co82, eo82⟩ := Kd.R_slice HO319.out
           (first | subst eo82 | (injection eo82 with f1_ f2_ f3_; have f4_ := f1_.symm; have f5_ := f3_.symm; clear f1_ f2_ f3_; subst f4_; subst f5_))
           refine hK.out _ _ ⟨(blk_cell BK306.out 0).trans rfl, (blk_cell BK306.out 1).trans rfl, (blk_cell BK287.out 0).trans rfl, (blk_cell BK287.out 1).trans rfl⟩ (fun hHeld => ?_)
           clear hK K
           refine norm_ (a' := ?_) ?_ ?_
           rotate_left
           ·show Act.put _ (some 35) _ = _
            simp only [Act.put, List.setIfInBounds_toArray, List.set_cons_zero, List.set_cons_succ, i64_w, i32_w]
            rfl
           refine one_ (i := 3) (N := some 36) #[true, true, true, true, false] rfl rfl (by kernel_rfl) (by decide) (fun K hK => ?_)
           refine goes_ Try.func19 (by kernel_rfl) rfl #[.agg #[.int .i64 t302, .slice Ao61 t303.length co61], .agg #[.int .i64 t316, .slice Ao82 t317.length co82]] (by rfl) rfl rfl (by (try simp only [List.map_toArray, List.map_cons, List.map_nil]); first | done | rfl | (simp only [List.length_drop, List.length_take]; rfl)) ?_
           with_reducible refine (laws_eqFont.calls k t302 _ _ t303 t316 _ _ t317  _ ?side1 ?side2 ?side3 ?side4 A19.out).mono ?_
           (case side1 => repeat (first | exact (Kd.R_reads' HO305.out).2.2 | (with_reducible refine Kd.C_alloc ?_ _) | (with_reducible refine Kd.C_drewN ?_ _) | (with_reducible refine Kd.C_drew ?_)))
           (case side2 => exact (Kd.R_reads' HO305.out).2.1)
           (case side3 => repeat (first | exact (Kd.R_reads' HO319.out).2.2 | (with_reducible refine Kd.C_alloc ?_ _) | (with_reducible refine Kd.C_drewN ?_ _) | (with_reducible refine Kd.C_drew ?_)))
           (case side4 => exact (Kd.R_reads' HO319.out).2.1)
           rintro e w83 ⟨rfl, hb⟩
           refine ⟨_, rfl, ?_⟩
           have n0_ := Aside0.mk (Kd.R_below (by (with_reducible repeat (first | apply Kd.R_alloc | apply Kd.R_drewN | apply Kd.R_drew)); exact HO293.out) hb)
           have n1_ := Aside0.mk (Kd.R_below (by (with_reducible repeat (first | apply Kd.R_alloc | apply Kd.R_drewN | apply Kd.R_drew)); exact HO300.out) hb)
           have n2_ := Aside0.mk (Kd.R_below (by (with_reducible repeat (first | apply Kd.R_alloc | apply Kd.R_drewN | apply Kd.R_drew)); exact HO305.out) hb)
           have n3_ := Aside0.mk (Kd.R_below (by (with_reducible repeat (first | apply Kd.R_alloc | apply Kd.R_drewN | apply Kd.R_drew)); exact HO313.out) hb)
           have n4_ := Aside0.mk (Kd.R_below (by (with_reducible repeat (first | apply Kd.R_alloc | apply Kd.R_drewN | apply Kd.R_drew)); exact HO319.out) hb)
           have n5_ := Aside0.mk (blkb hb BK287.out)
           have n6_ := Aside0.mk (blkb hb BK288.out)
           have n7_ := Aside0.mk (blkb hb BK301.out)
           have n8_ := Aside0.mk (blkb hb BK306.out)
           have n9_ := Aside0.mk (blkb hb BK314.out)
           have n10_ := Aside0.mk (below_step (by repeat (first | (with_reducible first | exact HB.out | apply below_alloc | apply pw_below_drewN | apply below_drew1 | refine below_set ?_ GE287.out | refine below_set ?_ GE288.out | refine below_set ?_ GE301.out | refine below_set ?_ GE306.out | refine below_set ?_ GE314.out) | exact HB.out)) hb)
           clear HO293
           clear HO300
           clear HO305
           clear HO313
           clear HO319
           clear BK287
           clear BK288
           clear BK301
           clear BK306
           clear BK314
           clear HB
           have HO293 := n0_
           have HO300 := n1_
           have HO305 := n2_
           have HO313 := n3_
           have HO319 := n4_
           have BK287 := n5_
           have BK288 := n6_
           have BK301 := n7_
           have BK306 := n8_
           have BK314 := n9_
           have HB := n10_
           clear n0_ n1_ n2_ n3_ n4_ n5_ n6_ n7_ n8_ n9_ n10_
           (try clear hb)
           (try clear hb2)
           (try clear hk)
           (try clear hi)
           refine hK.out _ _ ⟨(blk_cell BK306.out 0).trans rfl, (blk_cell BK306.out 1).trans rfl, (blk_cell BK287.out 0).trans rfl, (blk_cell BK287.out 1).trans rfl⟩ (fun hHeld => ?_)
           clear hK K
           refine norm_ (a' := ?_) ?_ ?_
           rotate_left
           ·show Act.put _ (some 36) _ = _
            simp only [Act.put, List.setIfInBounds_toArray, List.set_cons_zero, List.set_cons_succ, i64_w, i32_w]
            rfl
           refine pure_ (i := 4) (N := some 37) (v := ?_) (a' := ?_) #[true, true, true, true, true] rfl rfl (by kernel_rfl) (fun _ _ _ h => h) (Or.inl ⟨by rfl, ?_⟩) ?_ ?_
           rotate_left
           ·intro w'
            go_simp
            with_reducible rfl
           rotate_left
           ·simp only [Act.put, List.setIfInBounds_toArray, List.set_cons_zero, List.set_cons_succ, i64_w, i32_w]
            rfl
           refine done_ (by kernel_rfl) ?_
           have hcz84_0 : w83.cell? ⟨gb306, 0, none⟩ = some (.int .i64 t302) := (blk_cell BK306.out 0).trans rfl
           have hcz84_1 : w83.cell? ⟨gb306, 1, none⟩ = some (.slice Ao61 t303.length co61) := (blk_cell BK306.out 1).trans rfl
           have hfz84_0 := blk_frozen BK306.out 0
           have hfz84_1 := blk_frozen BK306.out 1
           try go_wp2_with (first | ((with_reducible refine gate_callee (f := 20) rfl ?_); refine goesL_ (some 40) rfl rfl Try.func20 (by kernel_rfl) rfl #[.agg #[.int .i64 t302, .slice Ao61 t303.length co61], .int .i64 1] rfl (by (try simp only [List.map_toArray, List.map_cons, List.map_nil]); first | done | rfl | (simp only [List.length_drop, List.length_take]; rfl)) ?_; (with_reducible refine (laws_markFont.calls k t302 (fun k_ => some k_ = (.slice Ao61 t303.length co61 : Value).ownBlock) (.slice Ao61 t303.length co61) t303 1 t321 t322 w _ ?side1 ?side2 A21.out).mono ?_); (case side1 => repeat (first | (with_reducible first | exact HB.out | apply below_alloc | apply pw_below_drewN | apply below_drew1 | refine below_set ?_ GE287.out | refine below_set ?_ GE288.out | refine below_set ?_ GE301.out | refine below_set ?_ GE306.out | refine below_set ?_ GE314.out) | exact HB.out)); (case side2 => exact Kd.R_tight rfl HO305.out); rintro e w85 ⟨rfl, hy0, hb, hkp⟩; refine ⟨_, rfl, ?_⟩; have n0_ := Aside0.mk (blk_kept (by (with_reducible repeat (first | refine blk_drewN ?_ _ | refine blk_drew ?_ | refine blk_alloc ?_ _)); exact BK287.out) hkp (fun hs_ => (fun e_ => (Kd.R_ne HO305.out BK287.out (by decide)) e_) hs_)); have n1_ := Aside0.mk (blk_kept (by (with_reducible repeat (first | refine blk_drewN ?_ _ | refine blk_drew ?_ | refine blk_alloc ?_ _)); exact BK288.out) hkp (fun hs_ => (fun e_ => (Kd.R_ne HO305.out BK288.out (by decide)) e_) hs_)); have n2_ := Aside0.mk (Kd.R_mono (ok' := fun k_ => some k_ ≠ (.slice Ao51 t298.length co51 : Value).ownBlock ∧ some k_ ≠ (.slice Ao61 t303.length co61 : Value).ownBlock ∧ some k_ ≠ (.slice Ao70 t311.length co70 : Value).ownBlock ∧ some k_ ≠ (.slice Ao82 t317.length co82 : Value).ownBlock) (Kd.R_keptB (HO293.out) hkp (fun k_ hk_ hs_ => (hk_.1.2.1) hs_)) (fun k_ hk_ => ⟨hk_.1.1.1, hk_.1.1.2.1, hk_.1.1.2.2, hk_.1.2⟩)); have n3_ := Aside0.mk (Kd.R_mono (ok' := fun k_ => some k_ ≠ (v292 : Value).ownBlock ∧ some k_ ≠ (.slice Ao61 t303.length co61 : Value).ownBlock ∧ some k_ ≠ (.slice Ao70 t311.length co70 : Value).ownBlock ∧ some k_ ≠ (.slice Ao82 t317.length co82 : Value).ownBlock) (Kd.R_keptB (HO300.out) hkp (fun k_ hk_ hs_ => (hk_.1.2.1) hs_)) (fun k_ hk_ => ⟨hk_.1.1.1, hk_.1.1.2.1, hk_.1.1.2.2, hk_.1.2⟩)); have n4_ := Aside0.mk (blk_kept (by (with_reducible repeat (first | refine blk_drewN ?_ _ | refine blk_drew ?_ | refine blk_alloc ?_ _)); exact BK301.out) hkp (fun hs_ => (fun e_ => (Kd.R_ne HO305.out BK301.out (by decide)) e_) hs_)); have n5_ := Aside0.mk (Kd.R_reok rfl hy0 (fun k_ e_ => HO305.out.1 k_ e_)); have n6_ := Aside0.mk (blk_kept (by (with_reducible repeat (first | refine blk_drewN ?_ _ | refine blk_drew ?_ | refine blk_alloc ?_ _)); exact BK306.out) hkp (fun hs_ => (fun e_ => (Kd.R_ne HO305.out BK306.out (by decide)) e_) hs_)); have n7_ := Aside0.mk (Kd.R_mono (ok' := fun k_ => some k_ ≠ (v292 : Value).ownBlock ∧ some k_ ≠ (.slice Ao51 t298.length co51 : Value).ownBlock ∧ some k_ ≠ (.slice Ao61 t303.length co61 : Value).ownBlock ∧ some k_ ≠ (.slice Ao82 t317.length co82 : Value).ownBlock) (Kd.R_keptB (HO313.out) hkp (fun k_ hk_ hs_ => (hk_.1.2.2) hs_)) (fun k_ hk_ => ⟨hk_.1.1.1, hk_.1.1.2.1, hk_.1.1.2.2, hk_.1.2⟩)); have n8_ := Aside0.mk (blk_kept (by (with_reducible repeat (first | refine blk_drewN ?_ _ | refine blk_drew ?_ | refine blk_alloc ?_ _)); exact BK314.out) hkp (fun hs_ => (fun e_ => (Kd.R_ne HO305.out BK314.out (by decide)) e_) hs_)); have n9_ := Aside0.mk (Kd.R_mono (ok' := fun k_ => some k_ ≠ (v292 : Value).ownBlock ∧ some k_ ≠ (.slice Ao51 t298.length co51 : Value).ownBlock ∧ some k_ ≠ (.slice Ao61 t303.length co61 : Value).ownBlock ∧ some k_ ≠ (.slice Ao70 t311.length co70 : Value).ownBlock) (Kd.R_keptB (HO319.out) hkp (fun k_ hk_ hs_ => (hk_.1.2) hs_)) (fun k_ hk_ => ⟨hk_.1.1.1.1.2, hk_.1.1.1.2, hk_.1.1.2, hk_.1.2⟩)); have n10_ := Aside0.mk (hb); clear BK287; clear BK288; clear HO293; clear HO300; clear BK301; clear HO305; clear BK306; clear HO313; clear BK314; clear HO319; clear HB; have BK287 := n0_; have BK288 := n1_; have HO293 := n2_; have HO300 := n3_; have BK301 := n4_; have HO305 := n5_; have BK306 := n6_; have HO313 := n7_; have BK314 := n8_; have HO319 := n9_; have HB := n10_; clear n0_ n1_ n2_ n3_ n4_ n5_ n6_ n7_ n8_ n9_ n10_; (try clear hb); (try clear hkp); (try clear hy0); have hcz86_0 : w85.cell? ⟨gb314, 0, none⟩ = some (.int .i64 t309) := (blk_cell BK314.out 0).trans rfl; have hcz86_1 : w85.cell? ⟨gb314, 1, none⟩ = some (.int .i64 t310) := (blk_cell BK314.out 1).trans rfl; have hcz86_2 : w85.cell? ⟨gb314, 2, none⟩ = some (.slice Ao70 t311.length co70) := (blk_cell BK314.out 2).trans rfl; have hfz86_0 := blk_frozen BK314.out 0; have hfz86_1 := blk_frozen BK314.out 1; have hfz86_2 := blk_frozen BK314.out 2; have hcz87_0 : w85.cell? ⟨gb301, 0, none⟩ = some (.int .i64 t296) := (blk_cell BK301.out 0).trans rfl; have hcz87_1 : w85.cell? ⟨gb301, 1, none⟩ = some (.int .i64 t297) := (blk_cell BK301.out 1).trans rfl; have hcz87_2 : w85.cell? ⟨gb301, 2, none⟩ = some (.slice Ao51 t298.length co51) := (blk_cell BK301.out 2).trans rfl; have hfz87_0 := blk_frozen BK301.out 0; have hfz87_1 := blk_frozen BK301.out 1; have hfz87_2 := blk_frozen BK301.out 2) | (go_at_call 18; (with_reducible refine (laws_eqFontResult.calls k t309 t310 _ _ t311 t296 t297 _ _ t298  _ ?side1 ?side2 ?side3 ?side4 A23.out).mono ?_); (case side1 => repeat (first | exact (Kd.R_reads' HO313.out).2.2 | (with_reducible refine Kd.C_alloc ?_ _) | (with_reducible refine Kd.C_drewN ?_ _) | (with_reducible refine Kd.C_drew ?_))); (case side2 => exact (Kd.R_reads' HO313.out).2.1); (case side3 => repeat (first | exact (Kd.R_reads' HO300.out).2.2 | (with_reducible refine Kd.C_alloc ?_ _) | (with_reducible refine Kd.C_drewN ?_ _) | (with_reducible refine Kd.C_drew ?_))); (case side4 => exact (Kd.R_reads' HO300.out).2.1); rintro e w88 ⟨rfl, hb⟩; have n0_ := Aside0.mk (Kd.R_below (by (with_reducible repeat (first | apply Kd.R_alloc | apply Kd.R_drewN | apply Kd.R_drew)); exact HO293.out) hb); have n1_ := Aside0.mk (Kd.R_below (by (with_reducible repeat (first | apply Kd.R_alloc | apply Kd.R_drewN | apply Kd.R_drew)); exact HO300.out) hb); have n2_ := Aside0.mk (Kd.R_below (by (with_reducible repeat (first | apply Kd.R_alloc | apply Kd.R_drewN | apply Kd.R_drew)); exact HO305.out) hb); have n3_ := Aside0.mk (Kd.R_below (by (with_reducible repeat (first | apply Kd.R_alloc | apply Kd.R_drewN | apply Kd.R_drew)); exact HO313.out) hb); have n4_ := Aside0.mk (Kd.R_below (by (with_reducible repeat (first | apply Kd.R_alloc | apply Kd.R_drewN | apply Kd.R_drew)); exact HO319.out) hb); have n5_ := Aside0.mk (blkb hb BK287.out); have n6_ := Aside0.mk (blkb hb BK288.out); have n7_ := Aside0.mk (blkb hb BK301.out); have n8_ := Aside0.mk (blkb hb BK306.out); have n9_ := Aside0.mk (blkb hb BK314.out); have n10_ := Aside0.mk (below_step (by repeat (first | (with_reducible first | exact HB.out | apply below_alloc | apply pw_below_drewN | apply below_drew1 | refine below_set ?_ GE287.out | refine below_set ?_ GE288.out | refine below_set ?_ GE301.out | refine below_set ?_ GE306.out | refine below_set ?_ GE314.out) | exact HB.out)) hb); clear HO293; clear HO300; clear HO305; clear HO313; clear HO319; clear BK287; clear BK288; clear BK301; clear BK306; clear BK314; clear HB; have HO293 := n0_; have HO300 := n1_; have HO305 := n2_; have HO313 := n3_; have HO319 := n4_; have BK287 := n5_; have BK288 := n6_; have BK301 := n7_; have BK306 := n8_; have BK314 := n9_; have HB := n10_; clear n0_ n1_ n2_ n3_ n4_ n5_ n6_ n7_ n8_ n9_ n10_; (try clear hb); (try clear hb2); (try clear hk); (try clear hi); have hcz89_0 : w88.cell? ⟨gb314, 0, none⟩ = some (.int .i64 t309) := (blk_cell BK314.out 0).trans rfl; have hcz89_1 : w88.cell? ⟨gb314, 1, none⟩ = some (.int .i64 t310) := (blk_cell BK314.out 1).trans rfl; have hcz89_2 : w88.cell? ⟨gb314, 2, none⟩ = some (.slice Ao70 t311.length co70) := (blk_cell BK314.out 2).trans rfl; have hfz89_0 := blk_frozen BK314.out 0; have hfz89_1 := blk_frozen BK314.out 1; have hfz89_2 := blk_frozen BK314.out 2) | ((with_reducible refine gate_callee (f := 21) rfl ?_); refine goesL_ (some 51) rfl rfl Try.func21 (by kernel_rfl) rfl #[.agg #[.int .i64 t309, .int .i64 t310, .slice Ao70 t311.length co70], .int .i64 1] rfl (by (try simp only [List.map_toArray, List.map_cons, List.map_nil]); first | done | rfl | (simp only [List.length_drop, List.length_take]; rfl)) ?_; (with_reducible refine (laws_markFontResult.calls k t309 t310 (fun k_ => some k_ = (.slice Ao70 t311.length co70 : Value).ownBlock) (.slice Ao70 t311.length co70) t311 1 t324 t325 w _ ?side1 ?side2 A25.out).mono ?_); (case side1 => repeat (first | (with_reducible first | exact HB.out | apply below_alloc | apply pw_below_drewN | apply below_drew1 | refine below_set ?_ GE287.out | refine below_set ?_ GE288.out | refine below_set ?_ GE301.out | refine below_set ?_ GE306.out | refine below_set ?_ GE314.out) | exact HB.out)); (case side2 => exact Kd.R_tight rfl HO313.out); rintro e w90 ⟨rfl, hy0, hb, hkp⟩; refine ⟨_, rfl, ?_⟩; have n0_ := Aside0.mk (blk_kept (by (with_reducible repeat (first | refine blk_drewN ?_ _ | refine blk_drew ?_ | refine blk_alloc ?_ _)); exact BK287.out) hkp (fun hs_ => (fun e_ => (Kd.R_ne HO313.out BK287.out (by decide)) e_) hs_)); have n1_ := Aside0.mk (blk_kept (by (with_reducible repeat (first | refine blk_drewN ?_ _ | refine blk_drew ?_ | refine blk_alloc ?_ _)); exact BK288.out) hkp (fun hs_ => (fun e_ => (Kd.R_ne HO313.out BK288.out (by decide)) e_) hs_)); have n2_ := Aside0.mk (Kd.R_mono (ok' := fun k_ => some k_ ≠ (.slice Ao51 t298.length co51 : Value).ownBlock ∧ some k_ ≠ (.slice Ao61 t303.length co61 : Value).ownBlock ∧ some k_ ≠ (.slice Ao70 t311.length co70 : Value).ownBlock ∧ some k_ ≠ (.slice Ao82 t317.length co82 : Value).ownBlock) (Kd.R_keptB (HO293.out) hkp (fun k_ hk_ hs_ => (hk_.2.2.1) hs_)) (fun k_ hk_ => ⟨hk_.1.1, hk_.1.2.1, hk_.1.2.2.1, hk_.1.2.2.2⟩)); have n3_ := Aside0.mk (Kd.R_mono (ok' := fun k_ => some k_ ≠ (v292 : Value).ownBlock ∧ some k_ ≠ (.slice Ao61 t303.length co61 : Value).ownBlock ∧ some k_ ≠ (.slice Ao70 t311.length co70 : Value).ownBlock ∧ some k_ ≠ (.slice Ao82 t317.length co82 : Value).ownBlock) (Kd.R_keptB (HO300.out) hkp (fun k_ hk_ hs_ => (hk_.2.2.1) hs_)) (fun k_ hk_ => ⟨hk_.1.1, hk_.1.2.1, hk_.1.2.2.1, hk_.1.2.2.2⟩)); have n4_ := Aside0.mk (blk_kept (by (with_reducible repeat (first | refine blk_drewN ?_ _ | refine blk_drew ?_ | refine blk_alloc ?_ _)); exact BK301.out) hkp (fun hs_ => (fun e_ => (Kd.R_ne HO313.out BK301.out (by decide)) e_) hs_)); have n5_ := Aside0.mk (Kd.R_mono (ok' := fun k_ => some k_ ≠ (v292 : Value).ownBlock ∧ some k_ ≠ (.slice Ao51 t298.length co51 : Value).ownBlock ∧ some k_ ≠ (.slice Ao70 t311.length co70 : Value).ownBlock ∧ some k_ ≠ (.slice Ao82 t317.length co82 : Value).ownBlock) (Kd.R_keptB (HO305.out) hkp (fun k_ hk_ hs_ => (hk_.1.2.2) hs_)) (fun k_ hk_ => ⟨hk_.1.1.1, hk_.1.1.2.1, hk_.1.1.2.2, hk_.1.2⟩)); have n6_ := Aside0.mk (blk_kept (by (with_reducible repeat (first | refine blk_drewN ?_ _ | refine blk_drew ?_ | refine blk_alloc ?_ _)); exact BK306.out) hkp (fun hs_ => (fun e_ => (Kd.R_ne HO313.out BK306.out (by decide)) e_) hs_)); have n7_ := Aside0.mk (Kd.R_reok rfl hy0 (fun k_ e_ => HO313.out.1 k_ e_)); have n8_ := Aside0.mk (blk_kept (by (with_reducible repeat (first | refine blk_drewN ?_ _ | refine blk_drew ?_ | refine blk_alloc ?_ _)); exact BK314.out) hkp (fun hs_ => (fun e_ => (Kd.R_ne HO313.out BK314.out (by decide)) e_) hs_)); have n9_ := Aside0.mk (Kd.R_mono (ok' := fun k_ => some k_ ≠ (v292 : Value).ownBlock ∧ some k_ ≠ (.slice Ao51 t298.length co51 : Value).ownBlock ∧ some k_ ≠ (.slice Ao61 t303.length co61 : Value).ownBlock ∧ some k_ ≠ (.slice Ao70 t311.length co70 : Value).ownBlock) (Kd.R_keptB (HO319.out) hkp (fun k_ hk_ hs_ => (hk_.2.2.2) hs_)) (fun k_ hk_ => ⟨hk_.1.1, hk_.1.2.1, hk_.1.2.2.1, hk_.1.2.2.2⟩)); have n10_ := Aside0.mk (hb); clear BK287; clear BK288; clear HO293; clear HO300; clear BK301; clear HO305; clear BK306; clear HO313; clear BK314; clear HO319; clear HB; have BK287 := n0_; have BK288 := n1_; have HO293 := n2_; have HO300 := n3_; have BK301 := n4_; have HO305 := n5_; have BK306 := n6_; have HO313 := n7_; have BK314 := n8_; have HO319 := n9_; have HB := n10_; clear n0_ n1_ n2_ n3_ n4_ n5_ n6_ n7_ n8_ n9_ n10_; (try clear hb); (try clear hkp); (try clear hy0); have hcz91_0 : w90.cell? ⟨gb314, 0, none⟩ = some (.int .i64 t309) := (blk_cell BK314.out 0).trans rfl; have hcz91_1 : w90.cell? ⟨gb314, 1, none⟩ = some (.int .i64 t310) := (blk_cell BK314.out 1).trans rfl; have hcz91_2 : w90.cell? ⟨gb314, 2, none⟩ = some (.slice Ao70 t311.length co70) := (blk_cell BK314.out 2).trans rfl; have hfz91_0 := blk_frozen BK314.out 0; have hfz91_1 := blk_frozen BK314.out 1; have hfz91_2 := blk_frozen BK314.out 2) | ((with_reducible refine gate_callee (f := 22) rfl ?_); refine goesL_ (some 54) rfl rfl Try.func22 (by kernel_rfl) rfl #[.agg #[.int .i64 t309, .int .i64 t310, .slice Ao70 t325.length co70], .int .i64 1] rfl (by (try simp only [List.map_toArray, List.map_cons, List.map_nil]); first | done | (rw [show t325.length = t311.length from (Kd.R_reads' HO313.out).1.symm] <;> rfl) | rfl | (simp only [List.length_drop, List.length_take]; rfl)) ?_; (with_reducible refine (laws_heldFontResult.calls k t309 t310 _ _ t325 1 t326 _ ?side1 ?side2 A26.out).mono ?_); (case side1 => repeat (first | exact (Kd.R_reads' HO313.out).2.2 | (with_reducible refine Kd.C_alloc ?_ _) | (with_reducible refine Kd.C_drewN ?_ _) | (with_reducible refine Kd.C_drew ?_))); (case side2 => rw [show t325.length = t311.length from (Kd.R_reads' HO313.out).1.symm]; exact (Kd.R_reads' HO313.out).2.1); rintro e w92 ⟨rfl, hb⟩; refine ⟨_, rfl, ?_⟩; have n0_ := Aside0.mk (Kd.R_below (by (with_reducible repeat (first | apply Kd.R_alloc | apply Kd.R_drewN | apply Kd.R_drew)); exact HO293.out) hb); have n1_ := Aside0.mk (Kd.R_below (by (with_reducible repeat (first | apply Kd.R_alloc | apply Kd.R_drewN | apply Kd.R_drew)); exact HO300.out) hb); have n2_ := Aside0.mk (Kd.R_below (by (with_reducible repeat (first | apply Kd.R_alloc | apply Kd.R_drewN | apply Kd.R_drew)); exact HO305.out) hb); have n3_ := Aside0.mk (Kd.R_below (by (with_reducible repeat (first | apply Kd.R_alloc | apply Kd.R_drewN | apply Kd.R_drew)); exact HO313.out) hb); have n4_ := Aside0.mk (Kd.R_below (by (with_reducible repeat (first | apply Kd.R_alloc | apply Kd.R_drewN | apply Kd.R_drew)); exact HO319.out) hb); have n5_ := Aside0.mk (blkb hb BK287.out); have n6_ := Aside0.mk (blkb hb BK288.out); have n7_ := Aside0.mk (blkb hb BK301.out); have n8_ := Aside0.mk (blkb hb BK306.out); have n9_ := Aside0.mk (blkb hb BK314.out); have n10_ := Aside0.mk (below_step (by repeat (first | (with_reducible first | exact HB.out | apply below_alloc | apply pw_below_drewN | apply below_drew1 | refine below_set ?_ GE287.out | refine below_set ?_ GE288.out | refine below_set ?_ GE301.out | refine below_set ?_ GE306.out | refine below_set ?_ GE314.out) | exact HB.out)) hb); clear HO293; clear HO300; clear HO305; clear HO313; clear HO319; clear BK287; clear BK288; clear BK301; clear BK306; clear BK314; clear HB; have HO293 := n0_; have HO300 := n1_; have HO305 := n2_; have HO313 := n3_; have HO319 := n4_; have BK287 := n5_; have BK288 := n6_; have BK301 := n7_; have BK306 := n8_; have BK314 := n9_; have HB := n10_; clear n0_ n1_ n2_ n3_ n4_ n5_ n6_ n7_ n8_ n9_ n10_; (try clear hb); (try clear hb2); (try clear hk); (try clear hi)))
           have n0_ := Aside0.mk (Kd.R_drew HO293.out)
           have n1_ := Aside0.mk (Kd.R_drew HO300.out)
           have n2_ := Aside0.mk (Kd.R_drew HO305.out)
           have n3_ := Aside0.mk (Kd.R_drew HO313.out)
           have n4_ := Aside0.mk (Kd.R_drew HO319.out)
           have n5_ := Aside0.mk (blk_drew BK287.out)
           have n6_ := Aside0.mk (blk_drew BK288.out)
           have n7_ := Aside0.mk (blk_drew BK301.out)
           have n8_ := Aside0.mk (blk_drew BK306.out)
           have n9_ := Aside0.mk (blk_drew BK314.out)
           have n10_ := Aside0.mk (below_drew1 HB.out)
           clear HO293
           clear HO300
           clear HO305
           clear HO313
           clear HO319
           clear BK287
           clear BK288
           clear BK301
           clear BK306
           clear BK314
           clear HB
           have HO293 := n0_
           have HO300 := n1_
           have HO305 := n2_
           have HO313 := n3_
           have HO319 := n4_
           have BK287 := n5_
           have BK288 := n6_
           have BK301 := n7_
           have BK306 := n8_
           have BK314 := n9_
           have HB := n10_
           clear n0_ n1_ n2_ n3_ n4_ n5_ n6_ n7_ n8_ n9_ n10_
           refine start_ (n := 7) (S := fun w' => w'.cell? ⟨gb287, 0, none⟩ = some (.int .i64 a0_0) ∧ w'.cell? ⟨gb287, 1, none⟩ = some (.slice A0_1 l0_1.length c0_1) ∧ w'.cell? ⟨gb288, 0, none⟩ = some (.int .i64 a1_0) ∧ w'.cell? ⟨gb288, 1, none⟩ = some (.int .i64 a1_1)) (ds := []) #[false, false, false, false, false, false, false] (by kernel_rfl) rfl rfl ⟨(blk_cell BK287.out 0).trans rfl, (blk_cell BK287.out 1).trans rfl, (blk_cell BK288.out 0).trans rfl, (blk_cell BK288.out 1).trans rfl⟩ (fun hHeld => ?_)
           generalize w92.drew = w93 at HO293 HO300 HO305 HO313 HO319 BK287 BK288 BK301 BK306 BK314 HB hHeld ⊢
           refine take_ (i := 0) (N := some 60) (v := ?_) (a' := ?_) #[true, false, false, false, false, false, false] rfl rfl (by kernel_rfl) (fun _ _ _ h => h) (Or.inl ⟨by rfl, ?_⟩) hHeld ?_ ?_
           rotate_left
           ·rintro w' ⟨s0, s1, s2, s3⟩
            go_simp
            with_reducible rfl
           rotate_left
           ·simp only [Act.put, List.setIfInBounds_toArray, List.set_cons_zero, List.set_cons_succ, i64_w, i32_w]
            rfl
           refine take_ (i := 2) (N := some 62) (v := ?_) (a' := ?_) #[true, false, true, false, false, false, false] rfl rfl (by kernel_rfl) (fun _ _ _ h => h) (Or.inl ⟨by rfl, ?_⟩) hHeld ?_ ?_
           rotate_left
           ·rintro w' ⟨s0, s1, s2, s3⟩
            go_simp
            with_reducible rfl
           rotate_left
           ·simp only [Act.put, List.setIfInBounds_toArray, List.set_cons_zero, List.set_cons_succ, i64_w, i32_w]
            rfl
           refine join_ (σ := Value × Value × Nat) 1 #[true, true, true, true, true, true, false] (fun s_ => [(61, .agg #[.int .i64 t327, s_.1]), (63, .agg #[.int .i64 t331, .int .i64 t332]), (64, .agg #[.int .i64 t333, .int .i64 t334, s_.2.1]), (12, .pointer (some ⟨s_.2.2, 0, none⟩))]) (fun s_ w' => (w'.cell? ⟨gb287, 0, none⟩ = some (.int .i64 a0_0) ∧ w'.cell? ⟨gb287, 1, none⟩ = some (.slice A0_1 l0_1.length c0_1) ∧ w'.cell? ⟨gb288, 0, none⟩ = some (.int .i64 a1_0) ∧ w'.cell? ⟨gb288, 1, none⟩ = some (.int .i64 a1_1)) ∧ (Kd.R k28 28 w' w.heap.size (fun k_ => some k_ ≠ (.slice Ao51 t298.length co51 : Value).ownBlock ∧ some k_ ≠ (.slice Ao61 t303.length co61 : Value).ownBlock ∧ some k_ ≠ (.slice Ao70 t311.length co70 : Value).ownBlock ∧ some k_ ≠ (.slice Ao82 t317.length co82 : Value).ownBlock ∧ some k_ ≠ (s_.1 : Value).ownBlock ∧ some k_ ≠ (s_.2.1 : Value).ownBlock) v292 t291) ∧ (Kd.R k28 28 w' w.heap.size (fun k_ => some k_ ≠ (v292 : Value).ownBlock ∧ some k_ ≠ (.slice Ao61 t303.length co61 : Value).ownBlock ∧ some k_ ≠ (.slice Ao70 t311.length co70 : Value).ownBlock ∧ some k_ ≠ (.slice Ao82 t317.length co82 : Value).ownBlock ∧ some k_ ≠ (s_.1 : Value).ownBlock ∧ some k_ ≠ (s_.2.1 : Value).ownBlock) (.slice Ao51 t298.length co51) t298) ∧ (Kd.R k28 28 w' w.heap.size (fun k_ => some k_ ≠ (v292 : Value).ownBlock ∧ some k_ ≠ (.slice Ao51 t298.length co51 : Value).ownBlock ∧ some k_ ≠ (.slice Ao70 t311.length co70 : Value).ownBlock ∧ some k_ ≠ (.slice Ao82 t317.length co82 : Value).ownBlock ∧ some k_ ≠ (s_.1 : Value).ownBlock ∧ some k_ ≠ (s_.2.1 : Value).ownBlock) (.slice Ao61 t303.length co61) t322) ∧ (Kd.R k28 28 w' w.heap.size (fun k_ => some k_ ≠ (v292 : Value).ownBlock ∧ some k_ ≠ (.slice Ao51 t298.length co51 : Value).ownBlock ∧ some k_ ≠ (.slice Ao61 t303.length co61 : Value).ownBlock ∧ some k_ ≠ (.slice Ao82 t317.length co82 : Value).ownBlock ∧ some k_ ≠ (s_.1 : Value).ownBlock ∧ some k_ ≠ (s_.2.1 : Value).ownBlock) (.slice Ao70 t311.length co70) t325) ∧ (Kd.R k28 28 w' w.heap.size (fun k_ => some k_ ≠ (v292 : Value).ownBlock ∧ some k_ ≠ (.slice Ao51 t298.length co51 : Value).ownBlock ∧ some k_ ≠ (.slice Ao61 t303.length co61 : Value).ownBlock ∧ some k_ ≠ (.slice Ao70 t311.length co70 : Value).ownBlock ∧ some k_ ≠ (s_.1 : Value).ownBlock ∧ some k_ ≠ (s_.2.1 : Value).ownBlock) (.slice Ao82 t317.length co82) t317) ∧ (Kd.R k28 28 w' w.heap.size (fun k_ => some k_ ≠ (v292 : Value).ownBlock ∧ some k_ ≠ (.slice Ao51 t298.length co51 : Value).ownBlock ∧ some k_ ≠ (.slice Ao61 t303.length co61 : Value).ownBlock ∧ some k_ ≠ (.slice Ao70 t311.length co70 : Value).ownBlock ∧ some k_ ≠ (.slice Ao82 t317.length co82 : Value).ownBlock ∧ some k_ ≠ (s_.2.1 : Value).ownBlock) s_.1 t328) ∧ (Kd.R k28 28 w' w.heap.size (fun k_ => some k_ ≠ (v292 : Value).ownBlock ∧ some k_ ≠ (.slice Ao51 t298.length co51 : Value).ownBlock ∧ some k_ ≠ (.slice Ao61 t303.length co61 : Value).ownBlock ∧ some k_ ≠ (.slice Ao70 t311.length co70 : Value).ownBlock ∧ some k_ ≠ (.slice Ao82 t317.length co82 : Value).ownBlock ∧ some k_ ≠ (s_.1 : Value).ownBlock) s_.2.1 t335) ∧ (w'.heap[gb287]? = some (.cells #[.int .i64 a0_0, .slice A0_1 l0_1.length c0_1] 41 (0, 0))) ∧ (w'.heap[gb288]? = some (.cells #[.int .i64 a1_0, .int .i64 a1_1] 42 (0, 0))) ∧ (w'.heap[gb301]? = some (.cells #[.int .i64 t296, .int .i64 t297, .slice Ao51 t298.length co51] 32 (0, 0))) ∧ (w'.heap[gb306]? = some (.cells #[.int .i64 t302, .slice Ao61 t303.length co61] 26 (0, 0))) ∧ (w'.heap[gb314]? = some (.cells #[.int .i64 t309, .int .i64 t310, .slice Ao70 t311.length co70] 32 (0, 0))) ∧ (w'.heap[s_.2.2]? = some (.cells #[.int .i64 0, .int .i64 0, .slice none 0 0] 32 (0, 0))) ∧ (w.heap.size ≤ s_.2.2) ∧ (w.heap.size ≤ s_.2.2) ∧ (gb287 ≠ s_.2.2) ∧ (s_.2.2 ≠ gb287) ∧ (gb288 ≠ s_.2.2) ∧ (s_.2.2 ≠ gb288) ∧ (gb301 ≠ s_.2.2) ∧ (s_.2.2 ≠ gb301) ∧ (gb306 ≠ s_.2.2) ∧ (s_.2.2 ≠ gb306) ∧ (gb314 ≠ s_.2.2) ∧ (s_.2.2 ≠ gb314) ∧ (Below w.heap.size w w')) ?_ ?_
           rotate_left
           ·intro hCont
            refine two_ (i := 1) (j := 5) (Ni := some 61) (Nj := some 12) #[true, true, true, false, false, false, false] #[true, false, true, false, false, true, false] rfl rfl rfl rfl (by kernel_rfl) (by decide) (by decide) (fun K hK => ?_) (fun K hK => ?_)
            ·skip
             refine goes_ Try.func16 (by kernel_rfl) rfl #[.agg #[.int .i64 a0_0, .slice A0_1 l0_1.length c0_1]] (by rfl) rfl rfl (by (try simp only [List.map_toArray, List.map_cons, List.map_nil]); first | done | rfl | (simp only [List.length_drop, List.length_take]; rfl)) ?_
             with_reducible refine (laws_toFont.calls k a0_0 _ _ l0_1 t327 t328 _ ?side1 ?side2 A29.out).mono ?_
             (case side1 => repeat (first | exact (Kd.C_below HR0_1.out HB.out) | (with_reducible refine Kd.C_alloc ?_ _) | (with_reducible refine Kd.C_drewN ?_ _) | (with_reducible refine Kd.C_drew ?_)))
             (case side2 => exact HC0_1.out)
             rintro e w94 ⟨v329, rfl, ho0, hb⟩
             refine ⟨_, rfl, ?_⟩
             have n0_ := Aside0.mk (Kd.R_elder' (by (with_reducible repeat (first | apply Kd.R_alloc | apply Kd.R_drewN | apply Kd.R_drew)); exact HO293.out) (Kd.R_base ho0) hb)
             have n1_ := Aside0.mk (Kd.R_elder' (by (with_reducible repeat (first | apply Kd.R_alloc | apply Kd.R_drewN | apply Kd.R_drew)); exact HO300.out) (Kd.R_base ho0) hb)
             have n2_ := Aside0.mk (Kd.R_elder' (by (with_reducible repeat (first | apply Kd.R_alloc | apply Kd.R_drewN | apply Kd.R_drew)); exact HO305.out) (Kd.R_base ho0) hb)
             have n3_ := Aside0.mk (Kd.R_elder' (by (with_reducible repeat (first | apply Kd.R_alloc | apply Kd.R_drewN | apply Kd.R_drew)); exact HO313.out) (Kd.R_base ho0) hb)
             have n4_ := Aside0.mk (Kd.R_elder' (by (with_reducible repeat (first | apply Kd.R_alloc | apply Kd.R_drewN | apply Kd.R_drew)); exact HO319.out) (Kd.R_base ho0) hb)
             have n5_ := Aside0.mk (Kd.R_lower (Kd.R_new' (Kd.R_new' (Kd.R_new' (Kd.R_new' (Kd.R_new' ho0 (Kd.R_lt (by (with_reducible repeat (first | apply Kd.R_alloc | apply Kd.R_drewN | apply Kd.R_drew)); exact HO293.out))) (Kd.R_lt (by (with_reducible repeat (first | apply Kd.R_alloc | apply Kd.R_drewN | apply Kd.R_drew)); exact HO300.out))) (Kd.R_lt (by (with_reducible repeat (first | apply Kd.R_alloc | apply Kd.R_drewN | apply Kd.R_drew)); exact HO305.out))) (Kd.R_lt (by (with_reducible repeat (first | apply Kd.R_alloc | apply Kd.R_drewN | apply Kd.R_drew)); exact HO313.out))) (Kd.R_lt (by (with_reducible repeat (first | apply Kd.R_alloc | apply Kd.R_drewN | apply Kd.R_drew)); exact HO319.out))) (below_size (by repeat (first | (with_reducible first | exact HB.out | apply below_alloc | apply pw_below_drewN | apply below_drew1 | refine below_set ?_ GE287.out | refine below_set ?_ GE288.out | refine below_set ?_ GE301.out | refine below_set ?_ GE306.out | refine below_set ?_ GE314.out) | exact HB.out))))
             have n6_ := Aside0.mk (blkb hb BK287.out)
             have n7_ := Aside0.mk (blkb hb BK288.out)
             have n8_ := Aside0.mk (blkb hb BK301.out)
             have n9_ := Aside0.mk (blkb hb BK306.out)
             have n10_ := Aside0.mk (blkb hb BK314.out)
             have n11_ := Aside0.mk (below_step (by repeat (first | (with_reducible first | exact HB.out | apply below_alloc | apply pw_below_drewN | apply below_drew1 | refine below_set ?_ GE287.out | refine below_set ?_ GE288.out | refine below_set ?_ GE301.out | refine below_set ?_ GE306.out | refine below_set ?_ GE314.out) | exact HB.out)) hb)
             clear HO293
             clear HO300
             clear HO305
             clear HO313
             clear HO319
             clear BK287
             clear BK288
             clear BK301
             clear BK306
             clear BK314
             clear HB
             have HO293 := n0_
             have HO300 := n1_
             have HO305 := n2_
             have HO313 := n3_
             have HO319 := n4_
             have HO330 := n5_
             have BK287 := n6_
             have BK288 := n7_
             have BK301 := n8_
             have BK306 := n9_
             have BK314 := n10_
             have HB := n11_
             clear n0_ n1_ n2_ n3_ n4_ n5_ n6_ n7_ n8_ n9_ n10_ n11_
             (try clear hb)
             (try clear hb2)
             (try clear hk)
             (try clear hi)
             (try clear ho0)
             refine hK.out _ _ ⟨(blk_cell BK287.out 0).trans rfl, (blk_cell BK287.out 1).trans rfl, (blk_cell BK288.out 0).trans rfl, (blk_cell BK288.out 1).trans rfl⟩ (fun hHeld => ?_)
             clear hK K
             refine norm_ (a' := ?_) ?_ ?_
             rotate_left
             ·show Act.put _ (some 61) _ = _
              simp only [Act.put, List.setIfInBounds_toArray, List.set_cons_zero, List.set_cons_succ, i64_w, i32_w]
              rfl
             refine two_ (i := 3) (j := 5) (Ni := some 63) (Nj := some 12) #[true, true, true, true, false, false, false] #[true, true, true, false, false, true, false] rfl rfl rfl rfl (by kernel_rfl) (by decide) (by decide) (fun K hK => ?_) (fun K hK => ?_)
             ·skip
              refine goes_ Try.func17 (by kernel_rfl) rfl #[.agg #[.int .i64 a1_0, .int .i64 a1_1]] (by rfl) rfl rfl (by (try simp only [List.map_toArray, List.map_cons, List.map_nil]); first | done | rfl | (simp only [List.length_drop, List.length_take]; rfl)) ?_
              with_reducible refine (laws_toPair.calls a1_0 a1_1 t331 t332 _ A30.out).mono ?_
              rintro e w95 ⟨rfl, hb⟩
              refine ⟨_, rfl, ?_⟩
              have n0_ := Aside0.mk (Kd.R_below (by (with_reducible repeat (first | apply Kd.R_alloc | apply Kd.R_drewN | apply Kd.R_drew)); exact HO293.out) hb)
              have n1_ := Aside0.mk (Kd.R_below (by (with_reducible repeat (first | apply Kd.R_alloc | apply Kd.R_drewN | apply Kd.R_drew)); exact HO300.out) hb)
              have n2_ := Aside0.mk (Kd.R_below (by (with_reducible repeat (first | apply Kd.R_alloc | apply Kd.R_drewN | apply Kd.R_drew)); exact HO305.out) hb)
              have n3_ := Aside0.mk (Kd.R_below (by (with_reducible repeat (first | apply Kd.R_alloc | apply Kd.R_drewN | apply Kd.R_drew)); exact HO313.out) hb)
              have n4_ := Aside0.mk (Kd.R_below (by (with_reducible repeat (first | apply Kd.R_alloc | apply Kd.R_drewN | apply Kd.R_drew)); exact HO319.out) hb)
              have n5_ := Aside0.mk (Kd.R_below (by (with_reducible repeat (first | apply Kd.R_alloc | apply Kd.R_drewN | apply Kd.R_drew)); exact HO330.out) hb)
              have n6_ := Aside0.mk (blkb hb BK287.out)
              have n7_ := Aside0.mk (blkb hb BK288.out)
              have n8_ := Aside0.mk (blkb hb BK301.out)
              have n9_ := Aside0.mk (blkb hb BK306.out)
              have n10_ := Aside0.mk (blkb hb BK314.out)
              have n11_ := Aside0.mk (below_step (by repeat (first | (with_reducible first | exact HB.out | apply below_alloc | apply pw_below_drewN | apply below_drew1 | refine below_set ?_ GE287.out | refine below_set ?_ GE288.out | refine below_set ?_ GE301.out | refine below_set ?_ GE306.out | refine below_set ?_ GE314.out) | exact HB.out)) hb)
              clear HO293
              clear HO300
              clear HO305
              clear HO313
              clear HO319
              clear HO330
              clear BK287
              clear BK288
              clear BK301
              clear BK306
              clear BK314
              clear HB
              have HO293 := n0_
              have HO300 := n1_
              have HO305 := n2_
              have HO313 := n3_
              have HO319 := n4_
              have HO330 := n5_
              have BK287 := n6_
              have BK288 := n7_
              have BK301 := n8_
              have BK306 := n9_
              have BK314 := n10_
              have HB := n11_
              clear n0_ n1_ n2_ n3_ n4_ n5_ n6_ n7_ n8_ n9_ n10_ n11_
              (try clear hb)
              (try clear hb2)
              (try clear hk)
              (try clear hi)
              obtain ⟨Ao96, co96, eo96⟩ := Kd.R_slice HO330.out
              (first | subst eo96 | (injection eo96 with f1_ f2_ f3_; have f4_ := f1_.symm; have f5_ := f3_.symm; clear f1_ f2_ f3_; subst f4_; subst f5_))
              refine hK.out _ _ ⟨(blk_cell BK287.out 0).trans rfl, (blk_cell BK287.out 1).trans rfl, (blk_cell BK288.out 0).trans rfl, (blk_cell BK288.out 1).trans rfl⟩ (fun hHeld => ?_)
              clear hK K
              refine norm_ (a' := ?_) ?_ ?_
              rotate_left
              ·show Act.put _ (some 63) _ = _
               simp only [Act.put, List.setIfInBounds_toArray, List.set_cons_zero, List.set_cons_succ, i64_w, i32_w]
               rfl
              refine two_ (i := 4) (j := 5) (Ni := some 64) (Nj := some 12) #[true, true, true, true, true, false, false] #[true, true, true, true, false, true, false] rfl rfl rfl rfl (by kernel_rfl) (by decide) (by decide) (fun K hK => ?_) (fun K hK => ?_)
              ·skip
               refine goes_ Try.func9 (by kernel_rfl) rfl #[.agg #[.int .i64 t327, .slice Ao96 t328.length co96], .agg #[.int .i64 t331, .int .i64 t332]] (by rfl) rfl rfl (by (try simp only [List.map_toArray, List.map_cons, List.map_nil]); first | done | rfl | (simp only [List.length_drop, List.length_take]; rfl)) ?_
               with_reducible refine (impl_PutPair.calls k t327 _ _ t328 t331 t332 t333 t334 t335 _ ?side1 ?side2 A31.out).mono ?_
               (case side1 => repeat (first | exact (Kd.R_reads' HO330.out).2.2 | (with_reducible refine Kd.C_alloc ?_ _) | (with_reducible refine Kd.C_drewN ?_ _) | (with_reducible refine Kd.C_drew ?_)))
               (case side2 => exact (Kd.R_reads' HO330.out).2.1)
               rintro e w97 ⟨v336, rfl, ho0, hb⟩
               refine ⟨_, rfl, ?_⟩
               have n0_ := Aside0.mk (Kd.R_elder' (by (with_reducible repeat (first | apply Kd.R_alloc | apply Kd.R_drewN | apply Kd.R_drew)); exact HO293.out) (Kd.R_base ho0) hb)
               have n1_ := Aside0.mk (Kd.R_elder' (by (with_reducible repeat (first | apply Kd.R_alloc | apply Kd.R_drewN | apply Kd.R_drew)); exact HO300.out) (Kd.R_base ho0) hb)
               have n2_ := Aside0.mk (Kd.R_elder' (by (with_reducible repeat (first | apply Kd.R_alloc | apply Kd.R_drewN | apply Kd.R_drew)); exact HO305.out) (Kd.R_base ho0) hb)
               have n3_ := Aside0.mk (Kd.R_elder' (by (with_reducible repeat (first | apply Kd.R_alloc | apply Kd.R_drewN | apply Kd.R_drew)); exact HO313.out) (Kd.R_base ho0) hb)
               have n4_ := Aside0.mk (Kd.R_elder' (by (with_reducible repeat (first | apply Kd.R_alloc | apply Kd.R_drewN | apply Kd.R_drew)); exact HO319.out) (Kd.R_base ho0) hb)
               have n5_ := Aside0.mk (Kd.R_elder' (by (with_reducible repeat (first | apply Kd.R_alloc | apply Kd.R_drewN | apply Kd.R_drew)); exact HO330.out) (Kd.R_base ho0) hb)
               have n6_ := Aside0.mk (Kd.R_lower (Kd.R_new' (Kd.R_new' (Kd.R_new' (Kd.R_new' (Kd.R_new' (Kd.R_new' ho0 (Kd.R_lt (by (with_reducible repeat (first | apply Kd.R_alloc | apply Kd.R_drewN | apply Kd.R_drew)); exact HO293.out))) (Kd.R_lt (by (with_reducible repeat (first | apply Kd.R_alloc | apply Kd.R_drewN | apply Kd.R_drew)); exact HO300.out))) (Kd.R_lt (by (with_reducible repeat (first | apply Kd.R_alloc | apply Kd.R_drewN | apply Kd.R_drew)); exact HO305.out))) (Kd.R_lt (by (with_reducible repeat (first | apply Kd.R_alloc | apply Kd.R_drewN | apply Kd.R_drew)); exact HO313.out))) (Kd.R_lt (by (with_reducible repeat (first | apply Kd.R_alloc | apply Kd.R_drewN | apply Kd.R_drew)); exact HO319.out))) (Kd.R_lt (by (with_reducible repeat (first | apply Kd.R_alloc | apply Kd.R_drewN | apply Kd.R_drew)); exact HO330.out))) (below_size (by repeat (first | (with_reducible first | exact HB.out | apply below_alloc | apply pw_below_drewN | apply below_drew1 | refine below_set ?_ GE287.out | refine below_set ?_ GE288.out | refine below_set ?_ GE301.out | refine below_set ?_ GE306.out | refine below_set ?_ GE314.out) | exact HB.out))))
               have n7_ := Aside0.mk (blkb hb BK287.out)
               have n8_ := Aside0.mk (blkb hb BK288.out)
               have n9_ := Aside0.mk (blkb hb BK301.out)
               have n10_ := Aside0.mk (blkb hb BK306.out)
               have n11_ := Aside0.mk (blkb hb BK314.out)
               have n12_ := Aside0.mk (below_step (by repeat (first | (with_reducible first | exact HB.out | apply below_alloc | apply pw_below_drewN | apply below_drew1 | refine below_set ?_ GE287.out | refine below_set ?_ GE288.out | refine below_set ?_ GE301.out | refine below_set ?_ GE306.out | refine below_set ?_ GE314.out) | exact HB.out)) hb)
               clear HO293
               clear HO300
               clear HO305
               clear HO313
               clear HO319
               clear HO330
               clear BK287
               clear BK288
               clear BK301
               clear BK306
               clear BK314
               clear HB
               have HO293 := n0_
               have HO300 := n1_
               have HO305 := n2_
               have HO313 := n3_
               have HO319 := n4_
               have HO330 := n5_
               have HO337 := n6_
               have BK287 := n7_
               have BK288 := n8_
               have BK301 := n9_
               have BK306 := n10_
               have BK314 := n11_
               have HB := n12_
               clear n0_ n1_ n2_ n3_ n4_ n5_ n6_ n7_ n8_ n9_ n10_ n11_ n12_
               (try clear hb)
               (try clear hb2)
               (try clear hk)
               (try clear hi)
               (try clear ho0)
               refine hK.out _ _ ⟨(blk_cell BK287.out 0).trans rfl, (blk_cell BK287.out 1).trans rfl, (blk_cell BK288.out 0).trans rfl, (blk_cell BK288.out 1).trans rfl⟩ (fun hHeld => ?_)
               clear hK K
               refine norm_ (a' := ?_) ?_ ?_
               rotate_left
               ·show Act.put _ (some 64) _ = _
                simp only [Act.put, List.setIfInBounds_toArray, List.set_cons_zero, List.set_cons_succ, i64_w, i32_w]
                rfl
               refine one_ (i := 5) (N := some 12) #[true, true, true, true, true, true, false] rfl rfl (by kernel_rfl) (by decide) (fun K hK => ?_)
               refine box_step ?hg (N := 12) ?hd (cs := #[.int .i64 0, .int .i64 0, .slice none 0 0]) (t := 32) ?hr ?_; (case hd => rfl); (case hg => rfl); (case hr => first | (go_simp; done) | (go_simp; rfl))
               intro gb338 hg w98 hbox hb
               have n0_ := Aside0.mk (Kd.R_below (by (with_reducible repeat (first | apply Kd.R_alloc | apply Kd.R_drewN | apply Kd.R_drew)); exact HO293.out) hb)
               have n1_ := Aside0.mk (Kd.R_below (by (with_reducible repeat (first | apply Kd.R_alloc | apply Kd.R_drewN | apply Kd.R_drew)); exact HO300.out) hb)
               have n2_ := Aside0.mk (Kd.R_below (by (with_reducible repeat (first | apply Kd.R_alloc | apply Kd.R_drewN | apply Kd.R_drew)); exact HO305.out) hb)
               have n3_ := Aside0.mk (Kd.R_below (by (with_reducible repeat (first | apply Kd.R_alloc | apply Kd.R_drewN | apply Kd.R_drew)); exact HO313.out) hb)
               have n4_ := Aside0.mk (Kd.R_below (by (with_reducible repeat (first | apply Kd.R_alloc | apply Kd.R_drewN | apply Kd.R_drew)); exact HO319.out) hb)
               have n5_ := Aside0.mk (Kd.R_below (by (with_reducible repeat (first | apply Kd.R_alloc | apply Kd.R_drewN | apply Kd.R_drew)); exact HO330.out) hb)
               have n6_ := Aside0.mk (Kd.R_below (by (with_reducible repeat (first | apply Kd.R_alloc | apply Kd.R_drewN | apply Kd.R_drew)); exact HO337.out) hb)
               have n7_ := Aside0.mk (blkb hb BK287.out)
               have n8_ := Aside0.mk (blkb hb BK288.out)
               have n9_ := Aside0.mk (blkb hb BK301.out)
               have n10_ := Aside0.mk (blkb hb BK306.out)
               have n11_ := Aside0.mk (blkb hb BK314.out)
               have n12_ := Aside0.mk (below_step (by repeat (first | (with_reducible first | exact HB.out | apply below_alloc | apply pw_below_drewN | apply below_drew1 | refine below_set ?_ GE287.out | refine below_set ?_ GE288.out | refine below_set ?_ GE301.out | refine below_set ?_ GE306.out | refine below_set ?_ GE314.out) | exact HB.out)) hb)
               have n13_ := Aside0.mk (hbox)
               have n14_ := Aside0.mk ((by rw [hg]; exact (below_size (by repeat (first | (with_reducible first | exact HB.out | apply below_alloc | apply pw_below_drewN | apply below_drew1 | refine below_set ?_ GE287.out | refine below_set ?_ GE288.out | refine below_set ?_ GE301.out | refine below_set ?_ GE306.out | refine below_set ?_ GE314.out) | exact HB.out))) : w.heap.size ≤ gb338))
               have n15_ := Aside0.mk ((by rw [hg]; exact (below_size (by repeat (first | (with_reducible first | exact HB.out | apply below_alloc | apply pw_below_drewN | apply below_drew1 | refine below_set ?_ GE287.out | refine below_set ?_ GE288.out | refine below_set ?_ GE301.out | refine below_set ?_ GE306.out | refine below_set ?_ GE314.out) | exact HB.out))) : w.heap.size ≤ gb338))
               have n16_ := Aside0.mk ((blkn hg BK287.out))
               have n17_ := Aside0.mk ((blkm hg BK287.out))
               have n18_ := Aside0.mk ((blkn hg BK288.out))
               have n19_ := Aside0.mk ((blkm hg BK288.out))
               have n20_ := Aside0.mk ((blkn hg BK301.out))
               have n21_ := Aside0.mk ((blkm hg BK301.out))
               have n22_ := Aside0.mk ((blkn hg BK306.out))
               have n23_ := Aside0.mk ((blkm hg BK306.out))
               have n24_ := Aside0.mk ((blkn hg BK314.out))
               have n25_ := Aside0.mk ((blkm hg BK314.out))
               clear HO293
               clear HO300
               clear HO305
               clear HO313
               clear HO319
               clear HO330
               clear HO337
               clear BK287
               clear BK288
               clear BK301
               clear BK306
               clear BK314
               clear HB
               have HO293 := n0_
               have HO300 := n1_
               have HO305 := n2_
               have HO313 := n3_
               have HO319 := n4_
               have HO330 := n5_
               have HO337 := n6_
               have BK287 := n7_
               have BK288 := n8_
               have BK301 := n9_
               have BK306 := n10_
               have BK314 := n11_
               have HB := n12_
               have BK338 := n13_
               have GW338 := n14_
               have GE338 := n15_
               have NB287_338 := n16_
               have NB338_287 := n17_
               have NB288_338 := n18_
               have NB338_288 := n19_
               have NB301_338 := n20_
               have NB338_301 := n21_
               have NB306_338 := n22_
               have NB338_306 := n23_
               have NB314_338 := n24_
               have NB338_314 := n25_
               clear n0_ n1_ n2_ n3_ n4_ n5_ n6_ n7_ n8_ n9_ n10_ n11_ n12_ n13_ n14_ n15_ n16_ n17_ n18_ n19_ n20_ n21_ n22_ n23_ n24_ n25_
               clear hb hbox hg
               refine hK.out _ _ ⟨(blk_cell BK287.out 0).trans rfl, (blk_cell BK287.out 1).trans rfl, (blk_cell BK288.out 0).trans rfl, (blk_cell BK288.out 1).trans rfl⟩ (fun hHeld => ?_)
               clear hK K
               refine norm_ (a' := ?_) ?_ ?_
               rotate_left
               ·show Act.put _ (some 12) _ = _
                simp only [Act.put, List.setIfInBounds_toArray, List.set_cons_zero, List.set_cons_succ, i64_w, i32_w]
                rfl
               exact norm_ (by simp only [putAll, Act.put, List.setIfInBounds_toArray, List.set_cons_zero, List.set_cons_succ]) (hCont (.slice Ao96 t328.length co96, v336, gb338) _ ⟨hHeld, (by (with_reducible repeat (first | apply Kd.R_alloc | apply Kd.R_drewN | apply Kd.R_drew)); exact Kd.R_mono HO293.out (fun _ hk => ⟨hk.1.1.1, ⟨hk.1.1.2.1, ⟨hk.1.1.2.2.1, ⟨hk.1.1.2.2.2, ⟨hk.1.2, hk.2⟩⟩⟩⟩⟩)), (by (with_reducible repeat (first | apply Kd.R_alloc | apply Kd.R_drewN | apply Kd.R_drew)); exact Kd.R_mono HO300.out (fun _ hk => ⟨hk.1.1.1, ⟨hk.1.1.2.1, ⟨hk.1.1.2.2.1, ⟨hk.1.1.2.2.2, ⟨hk.1.2, hk.2⟩⟩⟩⟩⟩)), (by (with_reducible repeat (first | apply Kd.R_alloc | apply Kd.R_drewN | apply Kd.R_drew)); exact Kd.R_mono HO305.out (fun _ hk => ⟨hk.1.1.1, ⟨hk.1.1.2.1, ⟨hk.1.1.2.2.1, ⟨hk.1.1.2.2.2, ⟨hk.1.2, hk.2⟩⟩⟩⟩⟩)), (by (with_reducible repeat (first | apply Kd.R_alloc | apply Kd.R_drewN | apply Kd.R_drew)); exact Kd.R_mono HO313.out (fun _ hk => ⟨hk.1.1.1, ⟨hk.1.1.2.1, ⟨hk.1.1.2.2.1, ⟨hk.1.1.2.2.2, ⟨hk.1.2, hk.2⟩⟩⟩⟩⟩)), (by (with_reducible repeat (first | apply Kd.R_alloc | apply Kd.R_drewN | apply Kd.R_drew)); exact Kd.R_mono HO319.out (fun _ hk => ⟨hk.1.1.1, ⟨hk.1.1.2.1, ⟨hk.1.1.2.2.1, ⟨hk.1.1.2.2.2, ⟨hk.1.2, hk.2⟩⟩⟩⟩⟩)), (by (with_reducible repeat (first | apply Kd.R_alloc | apply Kd.R_drewN | apply Kd.R_drew)); exact Kd.R_mono HO330.out (fun _ hk => ⟨hk.1.1.1.1.1.2, ⟨hk.1.1.1.1.2, ⟨hk.1.1.1.2, ⟨hk.1.1.2, ⟨hk.1.2, hk.2⟩⟩⟩⟩⟩)), (by (with_reducible repeat (first | apply Kd.R_alloc | apply Kd.R_drewN | apply Kd.R_drew)); exact Kd.R_mono HO337.out (fun _ hk => ⟨hk.1.1.1.1.1.2, ⟨hk.1.1.1.1.2, ⟨hk.1.1.1.2, ⟨hk.1.1.2, ⟨hk.1.2, hk.2⟩⟩⟩⟩⟩)), (by (with_reducible repeat (first | refine blk_drewN ?_ _ | refine blk_drew ?_ | refine blk_alloc ?_ _)); exact BK287.out), (by (with_reducible repeat (first | refine blk_drewN ?_ _ | refine blk_drew ?_ | refine blk_alloc ?_ _)); exact BK288.out), (by (with_reducible repeat (first | refine blk_drewN ?_ _ | refine blk_drew ?_ | refine blk_alloc ?_ _)); exact BK301.out), (by (with_reducible repeat (first | refine blk_drewN ?_ _ | refine blk_drew ?_ | refine blk_alloc ?_ _)); exact BK306.out), (by (with_reducible repeat (first | refine blk_drewN ?_ _ | refine blk_drew ?_ | refine blk_alloc ?_ _)); exact BK314.out), (by (with_reducible repeat (first | refine blk_drewN ?_ _ | refine blk_drew ?_ | refine blk_alloc ?_ _)); exact BK338.out), GW338.out, GE338.out, NB287_338.out, NB338_287.out, NB288_338.out, NB338_288.out, NB301_338.out, NB338_301.out, NB306_338.out, NB338_306.out, NB314_338.out, NB338_314.out, (by repeat (first | (with_reducible first | exact HB.out | apply below_alloc | apply pw_below_drewN | apply below_drew1 | refine below_set ?_ GE287.out | refine below_set ?_ GE288.out | refine below_set ?_ GE301.out | refine below_set ?_ GE306.out | refine below_set ?_ GE314.out | refine below_set ?_ GE338.out) | exact HB.out))⟩)
              ·skip
               refine box_step ?hg (N := 12) ?hd (cs := #[.int .i64 0, .int .i64 0, .slice none 0 0]) (t := 32) ?hr ?_; (case hd => rfl); (case hg => rfl); (case hr => first | (go_simp; done) | (go_simp; rfl))
               intro gb338 hg w96 hbox hb
               have n0_ := Aside0.mk (Kd.R_below (by (with_reducible repeat (first | apply Kd.R_alloc | apply Kd.R_drewN | apply Kd.R_drew)); exact HO293.out) hb)
               have n1_ := Aside0.mk (Kd.R_below (by (with_reducible repeat (first | apply Kd.R_alloc | apply Kd.R_drewN | apply Kd.R_drew)); exact HO300.out) hb)
               have n2_ := Aside0.mk (Kd.R_below (by (with_reducible repeat (first | apply Kd.R_alloc | apply Kd.R_drewN | apply Kd.R_drew)); exact HO305.out) hb)
               have n3_ := Aside0.mk (Kd.R_below (by (with_reducible repeat (first | apply Kd.R_alloc | apply Kd.R_drewN | apply Kd.R_drew)); exact HO313.out) hb)
               have n4_ := Aside0.mk (Kd.R_below (by (with_reducible repeat (first | apply Kd.R_alloc | apply Kd.R_drewN | apply Kd.R_drew)); exact HO319.out) hb)
               have n5_ := Aside0.mk (Kd.R_below (by (with_reducible repeat (first | apply Kd.R_alloc | apply Kd.R_drewN | apply Kd.R_drew)); exact HO330.out) hb)
               have n6_ := Aside0.mk (blkb hb BK287.out)
               have n7_ := Aside0.mk (blkb hb BK288.out)
               have n8_ := Aside0.mk (blkb hb BK301.out)
               have n9_ := Aside0.mk (blkb hb BK306.out)
               have n10_ := Aside0.mk (blkb hb BK314.out)
               have n11_ := Aside0.mk (below_step (by repeat (first | (with_reducible first | exact HB.out | apply below_alloc | apply pw_below_drewN | apply below_drew1 | refine below_set ?_ GE287.out | refine below_set ?_ GE288.out | refine below_set ?_ GE301.out | refine below_set ?_ GE306.out | refine below_set ?_ GE314.out) | exact HB.out)) hb)
               have n12_ := Aside0.mk (hbox)
               have n13_ := Aside0.mk ((by rw [hg]; exact (below_size (by repeat (first | (with_reducible first | exact HB.out | apply below_alloc | apply pw_below_drewN | apply below_drew1 | refine below_set ?_ GE287.out | refine below_set ?_ GE288.out | refine below_set ?_ GE301.out | refine below_set ?_ GE306.out | refine below_set ?_ GE314.out) | exact HB.out))) : w.heap.size ≤ gb338))
               have n14_ := Aside0.mk ((by rw [hg]; exact (below_size (by repeat (first | (with_reducible first | exact HB.out | apply below_alloc | apply pw_below_drewN | apply below_drew1 | refine below_set ?_ GE287.out | refine below_set ?_ GE288.out | refine below_set ?_ GE301.out | refine below_set ?_ GE306.out | refine below_set ?_ GE314.out) | exact HB.out))) : w.heap.size ≤ gb338))
               have n15_ := Aside0.mk ((blkn hg BK287.out))
               have n16_ := Aside0.mk ((blkm hg BK287.out))
               have n17_ := Aside0.mk ((blkn hg BK288.out))
               have n18_ := Aside0.mk ((blkm hg BK288.out))
               have n19_ := Aside0.mk ((blkn hg BK301.out))
               have n20_ := Aside0.mk ((blkm hg BK301.out))
               have n21_ := Aside0.mk ((blkn hg BK306.out))
               have n22_ := Aside0.mk ((blkm hg BK306.out))
               have n23_ := Aside0.mk ((blkn hg BK314.out))
               have n24_ := Aside0.mk ((blkm hg BK314.out))
               clear HO293
               clear HO300
               clear HO305
               clear HO313
               clear HO319
               clear HO330
               clear BK287
               clear BK288
               clear BK301
               clear BK306
               clear BK314
               clear HB
               have HO293 := n0_
               have HO300 := n1_
               have HO305 := n2_
               have HO313 := n3_
               have HO319 := n4_
               have HO330 := n5_
               have BK287 := n6_
               have BK288 := n7_
               have BK301 := n8_
               have BK306 := n9_
               have BK314 := n10_
               have HB := n11_
               have BK338 := n12_
               have GW338 := n13_
               have GE338 := n14_
               have NB287_338 := n15_
               have NB338_287 := n16_
               have NB288_338 := n17_
               have NB338_288 := n18_
               have NB301_338 := n19_
               have NB338_301 := n20_
               have NB306_338 := n21_
               have NB338_306 := n22_
               have NB314_338 := n23_
               have NB338_314 := n24_
               clear n0_ n1_ n2_ n3_ n4_ n5_ n6_ n7_ n8_ n9_ n10_ n11_ n12_ n13_ n14_ n15_ n16_ n17_ n18_ n19_ n20_ n21_ n22_ n23_ n24_
               clear hb hbox hg
               obtain ⟨Ao97, co97, eo97⟩ := Kd.R_slice HO330.out
               (first | subst eo97 | (injection eo97 with f1_ f2_ f3_; have f4_ := f1_.symm; have f5_ := f3_.symm; clear f1_ f2_ f3_; subst f4_; subst f5_))
               refine hK.out _ _ ⟨(blk_cell BK287.out 0).trans rfl, (blk_cell BK287.out 1).trans rfl, (blk_cell BK288.out 0).trans rfl, (blk_cell BK288.out 1).trans rfl⟩ (fun hHeld => ?_)
               clear hK K
               refine norm_ (a' := ?_) ?_ ?_
               rotate_left
               ·show Act.put _ (some 12) _ = _
                simp only [Act.put, List.setIfInBounds_toArray, List.set_cons_zero, List.set_cons_succ, i64_w, i32_w]
                rfl
               refine one_ (i := 4) (N := some 64) #[true, true, true, true, true, true, false] rfl rfl (by kernel_rfl) (by decide) (fun K hK => ?_)
               refine goes_ Try.func9 (by kernel_rfl) rfl #[.agg #[.int .i64 t327, .slice Ao97 t328.length co97], .agg #[.int .i64 t331, .int .i64 t332]] (by rfl) rfl rfl (by (try simp only [List.map_toArray, List.map_cons, List.map_nil]); first | done | rfl | (simp only [List.length_drop, List.length_take]; rfl)) ?_
               with_reducible refine (impl_PutPair.calls k t327 _ _ t328 t331 t332 t333 t334 t335 _ ?side1 ?side2 A31.out).mono ?_
               (case side1 => repeat (first | exact (Kd.R_reads' HO330.out).2.2 | (with_reducible refine Kd.C_alloc ?_ _) | (with_reducible refine Kd.C_drewN ?_ _) | (with_reducible refine Kd.C_drew ?_)))
               (case side2 => exact (Kd.R_reads' HO330.out).2.1)
               rintro e w98 ⟨v336, rfl, ho0, hb⟩
               refine ⟨_, rfl, ?_⟩
               have n0_ := Aside0.mk (Kd.R_elder' (by (with_reducible repeat (first | apply Kd.R_alloc | apply Kd.R_drewN | apply Kd.R_drew)); exact HO293.out) (Kd.R_base ho0) hb)
               have n1_ := Aside0.mk (Kd.R_elder' (by (with_reducible repeat (first | apply Kd.R_alloc | apply Kd.R_drewN | apply Kd.R_drew)); exact HO300.out) (Kd.R_base ho0) hb)
               have n2_ := Aside0.mk (Kd.R_elder' (by (with_reducible repeat (first | apply Kd.R_alloc | apply Kd.R_drewN | apply Kd.R_drew)); exact HO305.out) (Kd.R_base ho0) hb)
               have n3_ := Aside0.mk (Kd.R_elder' (by (with_reducible repeat (first | apply Kd.R_alloc | apply Kd.R_drewN | apply Kd.R_drew)); exact HO313.out) (Kd.R_base ho0) hb)
               have n4_ := Aside0.mk (Kd.R_elder' (by (with_reducible repeat (first | apply Kd.R_alloc | apply Kd.R_drewN | apply Kd.R_drew)); exact HO319.out) (Kd.R_base ho0) hb)
               have n5_ := Aside0.mk (Kd.R_elder' (by (with_reducible repeat (first | apply Kd.R_alloc | apply Kd.R_drewN | apply Kd.R_drew)); exact HO330.out) (Kd.R_base ho0) hb)
               have n6_ := Aside0.mk (Kd.R_lower (Kd.R_new' (Kd.R_new' (Kd.R_new' (Kd.R_new' (Kd.R_new' (Kd.R_new' ho0 (Kd.R_lt (by (with_reducible repeat (first | apply Kd.R_alloc | apply Kd.R_drewN | apply Kd.R_drew)); exact HO293.out))) (Kd.R_lt (by (with_reducible repeat (first | apply Kd.R_alloc | apply Kd.R_drewN | apply Kd.R_drew)); exact HO300.out))) (Kd.R_lt (by (with_reducible repeat (first | apply Kd.R_alloc | apply Kd.R_drewN | apply Kd.R_drew)); exact HO305.out))) (Kd.R_lt (by (with_reducible repeat (first | apply Kd.R_alloc | apply Kd.R_drewN | apply Kd.R_drew)); exact HO313.out))) (Kd.R_lt (by (with_reducible repeat (first | apply Kd.R_alloc | apply Kd.R_drewN | apply Kd.R_drew)); exact HO319.out))) (Kd.R_lt (by (with_reducible repeat (first | apply Kd.R_alloc | apply Kd.R_drewN | apply Kd.R_drew)); exact HO330.out))) (below_size (by repeat (first | (with_reducible first | exact HB.out | apply below_alloc | apply pw_below_drewN | apply below_drew1 | refine below_set ?_ GE287.out | refine below_set ?_ GE288.out | refine below_set ?_ GE301.out | refine below_set ?_ GE306.out | refine below_set ?_ GE314.out | refine below_set ?_ GE338.out) | exact HB.out))))
               have n7_ := Aside0.mk (blkb hb BK287.out)
               have n8_ := Aside0.mk (blkb hb BK288.out)
               have n9_ := Aside0.mk (blkb hb BK301.out)
               have n10_ := Aside0.mk (blkb hb BK306.out)
               have n11_ := Aside0.mk (blkb hb BK314.out)
               have n12_ := Aside0.mk (blkb hb BK338.out)
               have n13_ := Aside0.mk (below_step (by repeat (first | (with_reducible first | exact HB.out | apply below_alloc | apply pw_below_drewN | apply below_drew1 | refine below_set ?_ GE287.out | refine below_set ?_ GE288.out | refine below_set ?_ GE301.out | refine below_set ?_ GE306.out | refine below_set ?_ GE314.out | refine below_set ?_ GE338.out) | exact HB.out)) hb)
               clear HO293
               clear HO300
               clear HO305
               clear HO313
               clear HO319
               clear HO330
               clear BK287
               clear BK288
               clear BK301
               clear BK306
               clear BK314
               clear BK338
               clear HB
               have HO293 := n0_
               have HO300 := n1_
               have HO305 := n2_
               have HO313 := n3_
               have HO319 := n4_
               have HO330 := n5_
               have HO337 := n6_
               have BK287 := n7_
               have BK288 := n8_
               have BK301 := n9_
               have BK306 := n10_
               have BK314 := n11_
               have BK338 := n12_
               have HB := n13_
               clear n0_ n1_ n2_ n3_ n4_ n5_ n6_ n7_ n8_ n9_ n10_ n11_ n12_ n13_
               (try clear hb)
               (try clear hb2)
               (try clear hk)
               (try clear hi)
               (try clear ho0)
               refine hK.out _ _ ⟨(blk_cell BK287.out 0).trans rfl, (blk_cell BK287.out 1).trans rfl, (blk_cell BK288.out 0).trans rfl, (blk_cell BK288.out 1).trans rfl⟩ (fun hHeld => ?_)
               clear hK K
               refine norm_ (a' := ?_) ?_ ?_
               rotate_left
               ·show Act.put _ (some 64) _ = _
                simp only [Act.put, List.setIfInBounds_toArray, List.set_cons_zero, List.set_cons_succ, i64_w, i32_w]
                rfl
               exact norm_ (by simp only [putAll, Act.put, List.setIfInBounds_toArray, List.set_cons_zero, List.set_cons_succ]) (hCont (.slice Ao97 t328.length co97, v336, gb338) _ ⟨hHeld, (by (with_reducible repeat (first | apply Kd.R_alloc | apply Kd.R_drewN | apply Kd.R_drew)); exact Kd.R_mono HO293.out (fun _ hk => ⟨hk.1.1.1, ⟨hk.1.1.2.1, ⟨hk.1.1.2.2.1, ⟨hk.1.1.2.2.2, ⟨hk.1.2, hk.2⟩⟩⟩⟩⟩)), (by (with_reducible repeat (first | apply Kd.R_alloc | apply Kd.R_drewN | apply Kd.R_drew)); exact Kd.R_mono HO300.out (fun _ hk => ⟨hk.1.1.1, ⟨hk.1.1.2.1, ⟨hk.1.1.2.2.1, ⟨hk.1.1.2.2.2, ⟨hk.1.2, hk.2⟩⟩⟩⟩⟩)), (by (with_reducible repeat (first | apply Kd.R_alloc | apply Kd.R_drewN | apply Kd.R_drew)); exact Kd.R_mono HO305.out (fun _ hk => ⟨hk.1.1.1, ⟨hk.1.1.2.1, ⟨hk.1.1.2.2.1, ⟨hk.1.1.2.2.2, ⟨hk.1.2, hk.2⟩⟩⟩⟩⟩)), (by (with_reducible repeat (first | apply Kd.R_alloc | apply Kd.R_drewN | apply Kd.R_drew)); exact Kd.R_mono HO313.out (fun _ hk => ⟨hk.1.1.1, ⟨hk.1.1.2.1, ⟨hk.1.1.2.2.1, ⟨hk.1.1.2.2.2, ⟨hk.1.2, hk.2⟩⟩⟩⟩⟩)), (by (with_reducible repeat (first | apply Kd.R_alloc | apply Kd.R_drewN | apply Kd.R_drew)); exact Kd.R_mono HO319.out (fun _ hk => ⟨hk.1.1.1, ⟨hk.1.1.2.1, ⟨hk.1.1.2.2.1, ⟨hk.1.1.2.2.2, ⟨hk.1.2, hk.2⟩⟩⟩⟩⟩)), (by (with_reducible repeat (first | apply Kd.R_alloc | apply Kd.R_drewN | apply Kd.R_drew)); exact Kd.R_mono HO330.out (fun _ hk => ⟨hk.1.1.1.1.1.2, ⟨hk.1.1.1.1.2, ⟨hk.1.1.1.2, ⟨hk.1.1.2, ⟨hk.1.2, hk.2⟩⟩⟩⟩⟩)), (by (with_reducible repeat (first | apply Kd.R_alloc | apply Kd.R_drewN | apply Kd.R_drew)); exact Kd.R_mono HO337.out (fun _ hk => ⟨hk.1.1.1.1.1.2, ⟨hk.1.1.1.1.2, ⟨hk.1.1.1.2, ⟨hk.1.1.2, ⟨hk.1.2, hk.2⟩⟩⟩⟩⟩)), (by (with_reducible repeat (first | refine blk_drewN ?_ _ | refine blk_drew ?_ | refine blk_alloc ?_ _)); exact BK287.out), (by (with_reducible repeat (first | refine blk_drewN ?_ _ | refine blk_drew ?_ | refine blk_alloc ?_ _)); exact BK288.out), (by (with_reducible repeat (first | refine blk_drewN ?_ _ | refine blk_drew ?_ | refine blk_alloc ?_ _)); exact BK301.out), (by (with_reducible repeat (first | refine blk_drewN ?_ _ | refine blk_drew ?_ | refine blk_alloc ?_ _)); exact BK306.out), (by (with_reducible repeat (first | refine blk_drewN ?_ _ | refine blk_drew ?_ | refine blk_alloc ?_ _)); exact BK314.out), (by (with_reducible repeat (first | refine blk_drewN ?_ _ | refine blk_drew ?_ | refine blk_alloc ?_ _)); exact BK338.out), GW338.out, GE338.out, NB287_338.out, NB338_287.out, NB288_338.out, NB338_288.out, NB301_338.out, NB338_301.out, NB306_338.out, NB338_306.out, NB314_338.out, NB338_314.out, (by repeat (first | (with_reducible first | exact HB.out | apply below_alloc | apply pw_below_drewN | apply below_drew1 | refine below_set ?_ GE287.out | refine below_set ?_ GE288.out | refine below_set ?_ GE301.out | refine below_set ?_ GE306.out | refine below_set ?_ GE314.out | refine below_set ?_ GE338.out) | exact HB.out))⟩)
             ·skip
              refine box_step ?hg (N := 12) ?hd (cs := #[.int .i64 0, .int .i64 0, .slice none 0 0]) (t := 32) ?hr ?_; (case hd => rfl); (case hg => rfl); (case hr => first | (go_simp; done) | (go_simp; rfl))
              intro gb338 hg w95 hbox hb
              have n0_ := Aside0.mk (Kd.R_below (by (with_reducible repeat (first | apply Kd.R_alloc | apply Kd.R_drewN | apply Kd.R_drew)); exact HO293.out) hb)
              have n1_ := Aside0.mk (Kd.R_below (by (with_reducible repeat (first | apply Kd.R_alloc | apply Kd.R_drewN | apply Kd.R_drew)); exact HO300.out) hb)
              have n2_ := Aside0.mk (Kd.R_below (by (with_reducible repeat (first | apply Kd.R_alloc | apply Kd.R_drewN | apply Kd.R_drew)); exact HO305.out) hb)
              have n3_ := Aside0.mk (Kd.R_below (by (with_reducible repeat (first | apply Kd.R_alloc | apply Kd.R_drewN | apply Kd.R_drew)); exact HO313.out) hb)
              have n4_ := Aside0.mk (Kd.R_below (by (with_reducible repeat (first | apply Kd.R_alloc | apply Kd.R_drewN | apply Kd.R_drew)); exact HO319.out) hb)
              have n5_ := Aside0.mk (Kd.R_below (by (with_reducible repeat (first | apply Kd.R_alloc | apply Kd.R_drewN | apply Kd.R_drew)); exact HO330.out) hb)
              have n6_ := Aside0.mk (blkb hb BK287.out)
              have n7_ := Aside0.mk (blkb hb BK288.out)
              have n8_ := Aside0.mk (blkb hb BK301.out)
              have n9_ := Aside0.mk (blkb hb BK306.out)
              have n10_ := Aside0.mk (blkb hb BK314.out)
              have n11_ := Aside0.mk (below_step (by repeat (first | (with_reducible first | exact HB.out | apply below_alloc | apply pw_below_drewN | apply below_drew1 | refine below_set ?_ GE287.out | refine below_set ?_ GE288.out | refine below_set ?_ GE301.out | refine below_set ?_ GE306.out | refine below_set ?_ GE314.out) | exact HB.out)) hb)
              have n12_ := Aside0.mk (hbox)
              have n13_ := Aside0.mk ((by rw [hg]; exact (below_size (by repeat (first | (with_reducible first | exact HB.out | apply below_alloc | apply pw_below_drewN | apply below_drew1 | refine below_set ?_ GE287.out | refine below_set ?_ GE288.out | refine below_set ?_ GE301.out | refine below_set ?_ GE306.out | refine below_set ?_ GE314.out) | exact HB.out))) : w.heap.size ≤ gb338))
              have n14_ := Aside0.mk ((by rw [hg]; exact (below_size (by repeat (first | (with_reducible first | exact HB.out | apply below_alloc | apply pw_below_drewN | apply below_drew1 | refine below_set ?_ GE287.out | refine below_set ?_ GE288.out | refine below_set ?_ GE301.out | refine below_set ?_ GE306.out | refine below_set ?_ GE314.out) | exact HB.out))) : w.heap.size ≤ gb338))
              have n15_ := Aside0.mk ((blkn hg BK287.out))
              have n16_ := Aside0.mk ((blkm hg BK287.out))
              have n17_ := Aside0.mk ((blkn hg BK288.out))
              have n18_ := Aside0.mk ((blkm hg BK288.out))
              have n19_ := Aside0.mk ((blkn hg BK301.out))
              have n20_ := Aside0.mk ((blkm hg BK301.out))
              have n21_ := Aside0.mk ((blkn hg BK306.out))
              have n22_ := Aside0.mk ((blkm hg BK306.out))
              have n23_ := Aside0.mk ((blkn hg BK314.out))
              have n24_ := Aside0.mk ((blkm hg BK314.out))
              clear HO293
              clear HO300
              clear HO305
              clear HO313
              clear HO319
              clear HO330
              clear BK287
              clear BK288
              clear BK301
              clear BK306
              clear BK314
              clear HB
              have HO293 := n0_
              have HO300 := n1_
              have HO305 := n2_
              have HO313 := n3_
              have HO319 := n4_
              have HO330 := n5_
              have BK287 := n6_
              have BK288 := n7_
              have BK301 := n8_
              have BK306 := n9_
              have BK314 := n10_
              have HB := n11_
              have BK338 := n12_
              have GW338 := n13_
              have GE338 := n14_
              have NB287_338 := n15_
              have NB338_287 := n16_
              have NB288_338 := n17_
              have NB338_288 := n18_
              have NB301_338 := n19_
              have NB338_301 := n20_
              have NB306_338 := n21_
              have NB338_306 := n22_
              have NB314_338 := n23_
              have NB338_314 := n24_
              clear n0_ n1_ n2_ n3_ n4_ n5_ n6_ n7_ n8_ n9_ n10_ n11_ n12_ n13_ n14_ n15_ n16_ n17_ n18_ n19_ n20_ n21_ n22_ n23_ n24_
              clear hb hbox hg
              refine hK.out _ _ ⟨(blk_cell BK287.out 0).trans rfl, (blk_cell BK287.out 1).trans rfl, (blk_cell BK288.out 0).trans rfl, (blk_cell BK288.out 1).trans rfl⟩ (fun hHeld => ?_)
              clear hK K
              refine norm_ (a' := ?_) ?_ ?_
              rotate_left
              ·show Act.put _ (some 12) _ = _
               simp only [Act.put, List.setIfInBounds_toArray, List.set_cons_zero, List.set_cons_succ, i64_w, i32_w]
               rfl
              refine one_ (i := 3) (N := some 63) #[true, true, true, true, false, true, false] rfl rfl (by kernel_rfl) (by decide) (fun K hK => ?_)
              refine goes_ Try.func17 (by kernel_rfl) rfl #[.agg #[.int .i64 a1_0, .int .i64 a1_1]] (by rfl) rfl rfl (by (try simp only [List.map_toArray, List.map_cons, List.map_nil]); first | done | rfl | (simp only [List.length_drop, List.length_take]; rfl)) ?_
              with_reducible refine (laws_toPair.calls a1_0 a1_1 t331 t332 _ A30.out).mono ?_
              rintro e w96 ⟨rfl, hb⟩
              refine ⟨_, rfl, ?_⟩
              have n0_ := Aside0.mk (Kd.R_below (by (with_reducible repeat (first | apply Kd.R_alloc | apply Kd.R_drewN | apply Kd.R_drew)); exact HO293.out) hb)
              have n1_ := Aside0.mk (Kd.R_below (by (with_reducible repeat (first | apply Kd.R_alloc | apply Kd.R_drewN | apply Kd.R_drew)); exact HO300.out) hb)
              have n2_ := Aside0.mk (Kd.R_below (by (with_reducible repeat (first | apply Kd.R_alloc | apply Kd.R_drewN | apply Kd.R_drew)); exact HO305.out) hb)
              have n3_ := Aside0.mk (Kd.R_below (by (with_reducible repeat (first | apply Kd.R_alloc | apply Kd.R_drewN | apply Kd.R_drew)); exact HO313.out) hb)
              have n4_ := Aside0.mk (Kd.R_below (by (with_reducible repeat (first | apply Kd.R_alloc | apply Kd.R_drewN | apply Kd.R_drew)); exact HO319.out) hb)
              have n5_ := Aside0.mk (Kd.R_below (by (with_reducible repeat (first | apply Kd.R_alloc | apply Kd.R_drewN | apply Kd.R_drew)); exact HO330.out) hb)
              have n6_ := Aside0.mk (blkb hb BK287.out)
              have n7_ := Aside0.mk (blkb hb BK288.out)
              have n8_ := Aside0.mk (blkb hb BK301.out)
              have n9_ := Aside0.mk (blkb hb BK306.out)
              have n10_ := Aside0.mk (blkb hb BK314.out)
              have n11_ := Aside0.mk (blkb hb BK338.out)
              have n12_ := Aside0.mk (below_step (by repeat (first | (with_reducible first | exact HB.out | apply below_alloc | apply pw_below_drewN | apply below_drew1 | refine below_set ?_ GE287.out | refine below_set ?_ GE288.out | refine below_set ?_ GE301.out | refine below_set ?_ GE306.out | refine below_set ?_ GE314.out | refine below_set ?_ GE338.out) | exact HB.out)) hb)
              clear HO293
              clear HO300
              clear HO305
              clear HO313
              clear HO319
              clear HO330
              clear BK287
              clear BK288
              clear BK301
              clear BK306
              clear BK314
              clear BK338
              clear HB
              have HO293 := n0_
              have HO300 := n1_
              have HO305 := n2_
              have HO313 := n3_
              have HO319 := n4_
              have HO330 := n5_
              have BK287 := n6_
              have BK288 := n7_
              have BK301 := n8_
              have BK306 := n9_
              have BK314 := n10_
              have BK338 := n11_
              have HB := n12_
              clear n0_ n1_ n2_ n3_ n4_ n5_ n6_ n7_ n8_ n9_ n10_ n11_ n12_
              (try clear hb)
              (try clear hb2)
              (try clear hk)
              (try clear hi)
              obtain ⟨Ao97, co97, eo97⟩ := Kd.R_slice HO330.out
              (first | subst eo97 | (injection eo97 with f1_ f2_ f3_; have f4_ := f1_.symm; have f5_ := f3_.symm; clear f1_ f2_ f3_; subst f4_; subst f5_))
              refine hK.out _ _ ⟨(blk_cell BK287.out 0).trans rfl, (blk_cell BK287.out 1).trans rfl, (blk_cell BK288.out 0).trans rfl, (blk_cell BK288.out 1).trans rfl⟩ (fun hHeld => ?_)
              clear hK K
              refine norm_ (a' := ?_) ?_ ?_
              rotate_left
              ·show Act.put _ (some 63) _ = _
               simp only [Act.put, List.setIfInBounds_toArray, List.set_cons_zero, List.set_cons_succ, i64_w, i32_w]
               rfl
              refine one_ (i := 4) (N := some 64) #[true, true, true, true, true, true, false] rfl rfl (by kernel_rfl) (by decide) (fun K hK => ?_)
              refine goes_ Try.func9 (by kernel_rfl) rfl #[.agg #[.int .i64 t327, .slice Ao97 t328.length co97], .agg #[.int .i64 t331, .int .i64 t332]] (by rfl) rfl rfl (by (try simp only [List.map_toArray, List.map_cons, List.map_nil]); first | done | rfl | (simp only [List.length_drop, List.length_take]; rfl)) ?_
              with_reducible refine (impl_PutPair.calls k t327 _ _ t328 t331 t332 t333 t334 t335 _ ?side1 ?side2 A31.out).mono ?_
              (case side1 => repeat (first | exact (Kd.R_reads' HO330.out).2.2 | (with_reducible refine Kd.C_alloc ?_ _) | (with_reducible refine Kd.C_drewN ?_ _) | (with_reducible refine Kd.C_drew ?_)))
              (case side2 => exact (Kd.R_reads' HO330.out).2.1)
              rintro e w98 ⟨v336, rfl, ho0, hb⟩
              refine ⟨_, rfl, ?_⟩
              have n0_ := Aside0.mk (Kd.R_elder' (by (with_reducible repeat (first | apply Kd.R_alloc | apply Kd.R_drewN | apply Kd.R_drew)); exact HO293.out) (Kd.R_base ho0) hb)
              have n1_ := Aside0.mk (Kd.R_elder' (by (with_reducible repeat (first | apply Kd.R_alloc | apply Kd.R_drewN | apply Kd.R_drew)); exact HO300.out) (Kd.R_base ho0) hb)
              have n2_ := Aside0.mk (Kd.R_elder' (by (with_reducible repeat (first | apply Kd.R_alloc | apply Kd.R_drewN | apply Kd.R_drew)); exact HO305.out) (Kd.R_base ho0) hb)
              have n3_ := Aside0.mk (Kd.R_elder' (by (with_reducible repeat (first | apply Kd.R_alloc | apply Kd.R_drewN | apply Kd.R_drew)); exact HO313.out) (Kd.R_base ho0) hb)
              have n4_ := Aside0.mk (Kd.R_elder' (by (with_reducible repeat (first | apply Kd.R_alloc | apply Kd.R_drewN | apply Kd.R_drew)); exact HO319.out) (Kd.R_base ho0) hb)
              have n5_ := Aside0.mk (Kd.R_elder' (by (with_reducible repeat (first | apply Kd.R_alloc | apply Kd.R_drewN | apply Kd.R_drew)); exact HO330.out) (Kd.R_base ho0) hb)
              have n6_ := Aside0.mk (Kd.R_lower (Kd.R_new' (Kd.R_new' (Kd.R_new' (Kd.R_new' (Kd.R_new' (Kd.R_new' ho0 (Kd.R_lt (by (with_reducible repeat (first | apply Kd.R_alloc | apply Kd.R_drewN | apply Kd.R_drew)); exact HO293.out))) (Kd.R_lt (by (with_reducible repeat (first | apply Kd.R_alloc | apply Kd.R_drewN | apply Kd.R_drew)); exact HO300.out))) (Kd.R_lt (by (with_reducible repeat (first | apply Kd.R_alloc | apply Kd.R_drewN | apply Kd.R_drew)); exact HO305.out))) (Kd.R_lt (by (with_reducible repeat (first | apply Kd.R_alloc | apply Kd.R_drewN | apply Kd.R_drew)); exact HO313.out))) (Kd.R_lt (by (with_reducible repeat (first | apply Kd.R_alloc | apply Kd.R_drewN | apply Kd.R_drew)); exact HO319.out))) (Kd.R_lt (by (with_reducible repeat (first | apply Kd.R_alloc | apply Kd.R_drewN | apply Kd.R_drew)); exact HO330.out))) (below_size (by repeat (first | (with_reducible first | exact HB.out | apply below_alloc | apply pw_below_drewN | apply below_drew1 | refine below_set ?_ GE287.out | refine below_set ?_ GE288.out | refine below_set ?_ GE301.out | refine below_set ?_ GE306.out | refine below_set ?_ GE314.out | refine below_set ?_ GE338.out) | exact HB.out))))
              have n7_ := Aside0.mk (blkb hb BK287.out)
              have n8_ := Aside0.mk (blkb hb BK288.out)
              have n9_ := Aside0.mk (blkb hb BK301.out)
              have n10_ := Aside0.mk (blkb hb BK306.out)
              have n11_ := Aside0.mk (blkb hb BK314.out)
              have n12_ := Aside0.mk (blkb hb BK338.out)
              have n13_ := Aside0.mk (below_step (by repeat (first | (with_reducible first | exact HB.out | apply below_alloc | apply pw_below_drewN | apply below_drew1 | refine below_set ?_ GE287.out | refine below_set ?_ GE288.out | refine below_set ?_ GE301.out | refine below_set ?_ GE306.out | refine below_set ?_ GE314.out | refine below_set ?_ GE338.out) | exact HB.out)) hb)
              clear HO293
              clear HO300
              clear HO305
              clear HO313
              clear HO319
              clear HO330
              clear BK287
              clear BK288
              clear BK301
              clear BK306
              clear BK314
              clear BK338
              clear HB
              have HO293 := n0_
              have HO300 := n1_
              have HO305 := n2_
              have HO313 := n3_
              have HO319 := n4_
              have HO330 := n5_
              have HO337 := n6_
              have BK287 := n7_
              have BK288 := n8_
              have BK301 := n9_
              have BK306 := n10_
              have BK314 := n11_
              have BK338 := n12_
              have HB := n13_
              clear n0_ n1_ n2_ n3_ n4_ n5_ n6_ n7_ n8_ n9_ n10_ n11_ n12_ n13_
              (try clear hb)
              (try clear hb2)
              (try clear hk)
              (try clear hi)
              (try clear ho0)
              refine hK.out _ _ ⟨(blk_cell BK287.out 0).trans rfl, (blk_cell BK287.out 1).trans rfl, (blk_cell BK288.out 0).trans rfl, (blk_cell BK288.out 1).trans rfl⟩ (fun hHeld => ?_)
              clear hK K
              refine norm_ (a' := ?_) ?_ ?_
              rotate_left
              ·show Act.put _ (some 64) _ = _
               simp only [Act.put, List.setIfInBounds_toArray, List.set_cons_zero, List.set_cons_succ, i64_w, i32_w]
               rfl
              exact norm_ (by simp only [putAll, Act.put, List.setIfInBounds_toArray, List.set_cons_zero, List.set_cons_succ]) (hCont (.slice Ao97 t328.length co97, v336, gb338) _ ⟨hHeld, (by (with_reducible repeat (first | apply Kd.R_alloc | apply Kd.R_drewN | apply Kd.R_drew)); exact Kd.R_mono HO293.out (fun _ hk => ⟨hk.1.1.1, ⟨hk.1.1.2.1, ⟨hk.1.1.2.2.1, ⟨hk.1.1.2.2.2, ⟨hk.1.2, hk.2⟩⟩⟩⟩⟩)), (by (with_reducible repeat (first | apply Kd.R_alloc | apply Kd.R_drewN | apply Kd.R_drew)); exact Kd.R_mono HO300.out (fun _ hk => ⟨hk.1.1.1, ⟨hk.1.1.2.1, ⟨hk.1.1.2.2.1, ⟨hk.1.1.2.2.2, ⟨hk.1.2, hk.2⟩⟩⟩⟩⟩)), (by (with_reducible repeat (first | apply Kd.R_alloc | apply Kd.R_drewN | apply Kd.R_drew)); exact Kd.R_mono HO305.out (fun _ hk => ⟨hk.1.1.1, ⟨hk.1.1.2.1, ⟨hk.1.1.2.2.1, ⟨hk.1.1.2.2.2, ⟨hk.1.2, hk.2⟩⟩⟩⟩⟩)), (by (with_reducible repeat (first | apply Kd.R_alloc | apply Kd.R_drewN | apply Kd.R_drew)); exact Kd.R_mono HO313.out (fun _ hk => ⟨hk.1.1.1, ⟨hk.1.1.2.1, ⟨hk.1.1.2.2.1, ⟨hk.1.1.2.2.2, ⟨hk.1.2, hk.2⟩⟩⟩⟩⟩)), (by (with_reducible repeat (first | apply Kd.R_alloc | apply Kd.R_drewN | apply Kd.R_drew)); exact Kd.R_mono HO319.out (fun _ hk => ⟨hk.1.1.1, ⟨hk.1.1.2.1, ⟨hk.1.1.2.2.1, ⟨hk.1.1.2.2.2, ⟨hk.1.2, hk.2⟩⟩⟩⟩⟩)), (by (with_reducible repeat (first | apply Kd.R_alloc | apply Kd.R_drewN | apply Kd.R_drew)); exact Kd.R_mono HO330.out (fun _ hk => ⟨hk.1.1.1.1.1.2, ⟨hk.1.1.1.1.2, ⟨hk.1.1.1.2, ⟨hk.1.1.2, ⟨hk.1.2, hk.2⟩⟩⟩⟩⟩)), (by (with_reducible repeat (first | apply Kd.R_alloc | apply Kd.R_drewN | apply Kd.R_drew)); exact Kd.R_mono HO337.out (fun _ hk => ⟨hk.1.1.1.1.1.2, ⟨hk.1.1.1.1.2, ⟨hk.1.1.1.2, ⟨hk.1.1.2, ⟨hk.1.2, hk.2⟩⟩⟩⟩⟩)), (by (with_reducible repeat (first | refine blk_drewN ?_ _ | refine blk_drew ?_ | refine blk_alloc ?_ _)); exact BK287.out), (by (with_reducible repeat (first | refine blk_drewN ?_ _ | refine blk_drew ?_ | refine blk_alloc ?_ _)); exact BK288.out), (by (with_reducible repeat (first | refine blk_drewN ?_ _ | refine blk_drew ?_ | refine blk_alloc ?_ _)); exact BK301.out), (by (with_reducible repeat (first | refine blk_drewN ?_ _ | refine blk_drew ?_ | refine blk_alloc ?_ _)); exact BK306.out), (by (with_reducible repeat (first | refine blk_drewN ?_ _ | refine blk_drew ?_ | refine blk_alloc ?_ _)); exact BK314.out), (by (with_reducible repeat (first | refine blk_drewN ?_ _ | refine blk_drew ?_ | refine blk_alloc ?_ _)); exact BK338.out), GW338.out, GE338.out, NB287_338.out, NB338_287.out, NB288_338.out, NB338_288.out, NB301_338.out, NB338_301.out, NB306_338.out, NB338_306.out, NB314_338.out, NB338_314.out, (by repeat (first | (with_reducible first | exact HB.out | apply below_alloc | apply pw_below_drewN | apply below_drew1 | refine below_set ?_ GE287.out | refine below_set ?_ GE288.out | refine below_set ?_ GE301.out | refine below_set ?_ GE306.out | refine below_set ?_ GE314.out | refine below_set ?_ GE338.out) | exact HB.out))⟩)
            ·skip
             refine box_step ?hg (N := 12) ?hd (cs := #[.int .i64 0, .int .i64 0, .slice none 0 0]) (t := 32) ?hr ?_; (case hd => rfl); (case hg => rfl); (case hr => first | (go_simp; done) | (go_simp; rfl))
             intro gb338 hg w94 hbox hb
             have n0_ := Aside0.mk (Kd.R_below (by (with_reducible repeat (first | apply Kd.R_alloc | apply Kd.R_drewN | apply Kd.R_drew)); exact HO293.out) hb)
             have n1_ := Aside0.mk (Kd.R_below (by (with_reducible repeat (first | apply Kd.R_alloc | apply Kd.R_drewN | apply Kd.R_drew)); exact HO300.out) hb)
             have n2_ := Aside0.mk (Kd.R_below (by (with_reducible repeat (first | apply Kd.R_alloc | apply Kd.R_drewN | apply Kd.R_drew)); exact HO305.out) hb)
             have n3_ := Aside0.mk (Kd.R_below (by (with_reducible repeat (first | apply Kd.R_alloc | apply Kd.R_drewN | apply Kd.R_drew)); exact HO313.out) hb)
             have n4_ := Aside0.mk (Kd.R_below (by (with_reducible repeat (first | apply Kd.R_alloc | apply Kd.R_drewN | apply Kd.R_drew)); exact HO319.out) hb)
             have n5_ := Aside0.mk (blkb hb BK287.out)
             have n6_ := Aside0.mk (blkb hb BK288.out)
             have n7_ := Aside0.mk (blkb hb BK301.out)
             have n8_ := Aside0.mk (blkb hb BK306.out)
             have n9_ := Aside0.mk (blkb hb BK314.out)
             have n10_ := Aside0.mk (below_step (by repeat (first | (with_reducible first | exact HB.out | apply below_alloc | apply pw_below_drewN | apply below_drew1 | refine below_set ?_ GE287.out | refine below_set ?_ GE288.out | refine below_set ?_ GE301.out | refine below_set ?_ GE306.out | refine below_set ?_ GE314.out) | exact HB.out)) hb)
             have n11_ := Aside0.mk (hbox)
             have n12_ := Aside0.mk ((by rw [hg]; exact (below_size (by repeat (first | (with_reducible first | exact HB.out | apply below_alloc | apply pw_below_drewN | apply below_drew1 | refine below_set ?_ GE287.out | refine below_set ?_ GE288.out | refine below_set ?_ GE301.out | refine below_set ?_ GE306.out | refine below_set ?_ GE314.out) | exact HB.out))) : w.heap.size ≤ gb338))
             have n13_ := Aside0.mk ((by rw [hg]; exact (below_size (by repeat (first | (with_reducible first | exact HB.out | apply below_alloc | apply pw_below_drewN | apply below_drew1 | refine below_set ?_ GE287.out | refine below_set ?_ GE288.out | refine below_set ?_ GE301.out | refine below_set ?_ GE306.out | refine below_set ?_ GE314.out) | exact HB.out))) : w.heap.size ≤ gb338))
             have n14_ := Aside0.mk ((blkn hg BK287.out))
             have n15_ := Aside0.mk ((blkm hg BK287.out))
             have n16_ := Aside0.mk ((blkn hg BK288.out))
             have n17_ := Aside0.mk ((blkm hg BK288.out))
             have n18_ := Aside0.mk ((blkn hg BK301.out))
             have n19_ := Aside0.mk ((blkm hg BK301.out))
             have n20_ := Aside0.mk ((blkn hg BK306.out))
             have n21_ := Aside0.mk ((blkm hg BK306.out))
             have n22_ := Aside0.mk ((blkn hg BK314.out))
             have n23_ := Aside0.mk ((blkm hg BK314.out))
             clear HO293
             clear HO300
             clear HO305
             clear HO313
             clear HO319
             clear BK287
             clear BK288
             clear BK301
             clear BK306
             clear BK314
             clear HB
             have HO293 := n0_
             have HO300 := n1_
             have HO305 := n2_
             have HO313 := n3_
             have HO319 := n4_
             have BK287 := n5_
             have BK288 := n6_
             have BK301 := n7_
             have BK306 := n8_
             have BK314 := n9_
             have HB := n10_
             have BK338 := n11_
             have GW338 := n12_
             have GE338 := n13_
             have NB287_338 := n14_
             have NB338_287 := n15_
             have NB288_338 := n16_
             have NB338_288 := n17_
             have NB301_338 := n18_
             have NB338_301 := n19_
             have NB306_338 := n20_
             have NB338_306 := n21_
             have NB314_338 := n22_
             have NB338_314 := n23_
             clear n0_ n1_ n2_ n3_ n4_ n5_ n6_ n7_ n8_ n9_ n10_ n11_ n12_ n13_ n14_ n15_ n16_ n17_ n18_ n19_ n20_ n21_ n22_ n23_
             clear hb hbox hg
             refine hK.out _ _ ⟨(blk_cell BK287.out 0).trans rfl, (blk_cell BK287.out 1).trans rfl, (blk_cell BK288.out 0).trans rfl, (blk_cell BK288.out 1).trans rfl⟩ (fun hHeld => ?_)
             clear hK K
             refine norm_ (a' := ?_) ?_ ?_
             rotate_left
             ·show Act.put _ (some 12) _ = _
              simp only [Act.put, List.setIfInBounds_toArray, List.set_cons_zero, List.set_cons_succ, i64_w, i32_w]
              rfl
             refine one_ (i := 1) (N := some 61) #[true, true, true, false, false, true, false] rfl rfl (by kernel_rfl) (by decide) (fun K hK => ?_)
             refine goes_ Try.func16 (by kernel_rfl) rfl #[.agg #[.int .i64 a0_0, .slice A0_1 l0_1.length c0_1]] (by rfl) rfl rfl (by (try simp only [List.map_toArray, List.map_cons, List.map_nil]); first | done | rfl | (simp only [List.length_drop, List.length_take]; rfl)) ?_
             with_reducible refine (laws_toFont.calls k a0_0 _ _ l0_1 t327 t328 _ ?side1 ?side2 A29.out).mono ?_
             (case side1 => repeat (first | exact (Kd.C_below HR0_1.out HB.out) | (with_reducible refine Kd.C_alloc ?_ _) | (with_reducible refine Kd.C_drewN ?_ _) | (with_reducible refine Kd.C_drew ?_)))
             (case side2 => exact HC0_1.out)
             rintro e w95 ⟨v329, rfl, ho0, hb⟩
             refine ⟨_, rfl, ?_⟩
             have n0_ := Aside0.mk (Kd.R_elder' (by (with_reducible repeat (first | apply Kd.R_alloc | apply Kd.R_drewN | apply Kd.R_drew)); exact HO293.out) (Kd.R_base ho0) hb)
             have n1_ := Aside0.mk (Kd.R_elder' (by (with_reducible repeat (first | apply Kd.R_alloc | apply Kd.R_drewN | apply Kd.R_drew)); exact HO300.out) (Kd.R_base ho0) hb)
             have n2_ := Aside0.mk (Kd.R_elder' (by (with_reducible repeat (first | apply Kd.R_alloc | apply Kd.R_drewN | apply Kd.R_drew)); exact HO305.out) (Kd.R_base ho0) hb)
             have n3_ := Aside0.mk (Kd.R_elder' (by (with_reducible repeat (first | apply Kd.R_alloc | apply Kd.R_drewN | apply Kd.R_drew)); exact HO313.out) (Kd.R_base ho0) hb)
             have n4_ := Aside0.mk (Kd.R_elder' (by (with_reducible repeat (first | apply Kd.R_alloc | apply Kd.R_drewN | apply Kd.R_drew)); exact HO319.out) (Kd.R_base ho0) hb)
             have n5_ := Aside0.mk (Kd.R_lower (Kd.R_new' (Kd.R_new' (Kd.R_new' (Kd.R_new' (Kd.R_new' ho0 (Kd.R_lt (by (with_reducible repeat (first | apply Kd.R_alloc | apply Kd.R_drewN | apply Kd.R_drew)); exact HO293.out))) (Kd.R_lt (by (with_reducible repeat (first | apply Kd.R_alloc | apply Kd.R_drewN | apply Kd.R_drew)); exact HO300.out))) (Kd.R_lt (by (with_reducible repeat (first | apply Kd.R_alloc | apply Kd.R_drewN | apply Kd.R_drew)); exact HO305.out))) (Kd.R_lt (by (with_reducible repeat (first | apply Kd.R_alloc | apply Kd.R_drewN | apply Kd.R_drew)); exact HO313.out))) (Kd.R_lt (by (with_reducible repeat (first | apply Kd.R_alloc | apply Kd.R_drewN | apply Kd.R_drew)); exact HO319.out))) (below_size (by repeat (first | (with_reducible first | exact HB.out | apply below_alloc | apply pw_below_drewN | apply below_drew1 | refine below_set ?_ GE287.out | refine below_set ?_ GE288.out | refine below_set ?_ GE301.out | refine below_set ?_ GE306.out | refine below_set ?_ GE314.out | refine below_set ?_ GE338.out) | exact HB.out))))
             have n6_ := Aside0.mk (blkb hb BK287.out)
             have n7_ := Aside0.mk (blkb hb BK288.out)
             have n8_ := Aside0.mk (blkb hb BK301.out)
             have n9_ := Aside0.mk (blkb hb BK306.out)
             have n10_ := Aside0.mk (blkb hb BK314.out)
             have n11_ := Aside0.mk (blkb hb BK338.out)
             have n12_ := Aside0.mk (below_step (by repeat (first | (with_reducible first | exact HB.out | apply below_alloc | apply pw_below_drewN | apply below_drew1 | refine below_set ?_ GE287.out | refine below_set ?_ GE288.out | refine below_set ?_ GE301.out | refine below_set ?_ GE306.out | refine below_set ?_ GE314.out | refine below_set ?_ GE338.out) | exact HB.out)) hb)
             clear HO293
             clear HO300
             clear HO305
             clear HO313
             clear HO319
             clear BK287
             clear BK288
             clear BK301
             clear BK306
             clear BK314
             clear BK338
             clear HB
             have HO293 := n0_
             have HO300 := n1_
             have HO305 := n2_
             have HO313 := n3_
             have HO319 := n4_
             have HO330 := n5_
             have BK287 := n6_
             have BK288 := n7_
             have BK301 := n8_
             have BK306 := n9_
             have BK314 := n10_
             have BK338 := n11_
             have HB := n12_
             clear n0_ n1_ n2_ n3_ n4_ n5_ n6_ n7_ n8_ n9_ n10_ n11_ n12_
             (try clear hb)
             (try clear hb2)
             (try clear hk)
             (try clear hi)
             (try clear ho0)
             refine hK.out _ _ ⟨(blk_cell BK287.out 0).trans rfl, (blk_cell BK287.out 1).trans rfl, (blk_cell BK288.out 0).trans rfl, (blk_cell BK288.out 1).trans rfl⟩ (fun hHeld => ?_)
             clear hK K
             refine norm_ (a' := ?_) ?_ ?_
             rotate_left
             ·show Act.put _ (some 61) _ = _
              simp only [Act.put, List.setIfInBounds_toArray, List.set_cons_zero, List.set_cons_succ, i64_w, i32_w]
              rfl
             refine one_ (i := 3) (N := some 63) #[true, true, true, true, false, true, false] rfl rfl (by kernel_rfl) (by decide) (fun K hK => ?_)
             refine goes_ Try.func17 (by kernel_rfl) rfl #[.agg #[.int .i64 a1_0, .int .i64 a1_1]] (by rfl) rfl rfl (by (try simp only [List.map_toArray, List.map_cons, List.map_nil]); first | done | rfl | (simp only [List.length_drop, List.length_take]; rfl)) ?_
             with_reducible refine (laws_toPair.calls a1_0 a1_1 t331 t332 _ A30.out).mono ?_
             rintro e w96 ⟨rfl, hb⟩
             refine ⟨_, rfl, ?_⟩
             have n0_ := Aside0.mk (Kd.R_below (by (with_reducible repeat (first | apply Kd.R_alloc | apply Kd.R_drewN | apply Kd.R_drew)); exact HO293.out) hb)
             have n1_ := Aside0.mk (Kd.R_below (by (with_reducible repeat (first | apply Kd.R_alloc | apply Kd.R_drewN | apply Kd.R_drew)); exact HO300.out) hb)
             have n2_ := Aside0.mk (Kd.R_below (by (with_reducible repeat (first | apply Kd.R_alloc | apply Kd.R_drewN | apply Kd.R_drew)); exact HO305.out) hb)
             have n3_ := Aside0.mk (Kd.R_below (by (with_reducible repeat (first | apply Kd.R_alloc | apply Kd.R_drewN | apply Kd.R_drew)); exact HO313.out) hb)
             have n4_ := Aside0.mk (Kd.R_below (by (with_reducible repeat (first | apply Kd.R_alloc | apply Kd.R_drewN | apply Kd.R_drew)); exact HO319.out) hb)
             have n5_ := Aside0.mk (Kd.R_below (by (with_reducible repeat (first | apply Kd.R_alloc | apply Kd.R_drewN | apply Kd.R_drew)); exact HO330.out) hb)
             have n6_ := Aside0.mk (blkb hb BK287.out)
             have n7_ := Aside0.mk (blkb hb BK288.out)
             have n8_ := Aside0.mk (blkb hb BK301.out)
             have n9_ := Aside0.mk (blkb hb BK306.out)
             have n10_ := Aside0.mk (blkb hb BK314.out)
             have n11_ := Aside0.mk (blkb hb BK338.out)
             have n12_ := Aside0.mk (below_step (by repeat (first | (with_reducible first | exact HB.out | apply below_alloc | apply pw_below_drewN | apply below_drew1 | refine below_set ?_ GE287.out | refine below_set ?_ GE288.out | refine below_set ?_ GE301.out | refine below_set ?_ GE306.out | refine below_set ?_ GE314.out | refine below_set ?_ GE338.out) | exact HB.out)) hb)
             clear HO293
             clear HO300
             clear HO305
             clear HO313
             clear HO319
             clear HO330
             clear BK287
             clear BK288
             clear BK301
             clear BK306
             clear BK314
             clear BK338
             clear HB
             have HO293 := n0_
             have HO300 := n1_
             have HO305 := n2_
             have HO313 := n3_
             have HO319 := n4_
             have HO330 := n5_
             have BK287 := n6_
             have BK288 := n7_
             have BK301 := n8_
             have BK306 := n9_
             have BK314 := n10_
             have BK338 := n11_
             have HB := n12_
             clear n0_ n1_ n2_ n3_ n4_ n5_ n6_ n7_ n8_ n9_ n10_ n11_ n12_
             (try clear hb)
             (try clear hb2)
             (try clear hk)
             (try clear hi)
             obtain ⟨Ao97, co97, eo97⟩ := Kd.R_slice HO330.out
             (first | subst eo97 | (injection eo97 with f1_ f2_ f3_; have f4_ := f1_.symm; have f5_ := f3_.symm; clear f1_ f2_ f3_; subst f4_; subst f5_))
             refine hK.out _ _ ⟨(blk_cell BK287.out 0).trans rfl, (blk_cell BK287.out 1).trans rfl, (blk_cell BK288.out 0).trans rfl, (blk_cell BK288.out 1).trans rfl⟩ (fun hHeld => ?_)
             clear hK K
             refine norm_ (a' := ?_) ?_ ?_
             rotate_left
             ·show Act.put _ (some 63) _ = _
              simp only [Act.put, List.setIfInBounds_toArray, List.set_cons_zero, List.set_cons_succ, i64_w, i32_w]
              rfl
             refine one_ (i := 4) (N := some 64) #[true, true, true, true, true, true, false] rfl rfl (by kernel_rfl) (by decide) (fun K hK => ?_)
             refine goes_ Try.func9 (by kernel_rfl) rfl #[.agg #[.int .i64 t327, .slice Ao97 t328.length co97], .agg #[.int .i64 t331, .int .i64 t332]] (by rfl) rfl rfl (by (try simp only [List.map_toArray, List.map_cons, List.map_nil]); first | done | rfl | (simp only [List.length_drop, List.length_take]; rfl)) ?_
             with_reducible refine (impl_PutPair.calls k t327 _ _ t328 t331 t332 t333 t334 t335 _ ?side1 ?side2 A31.out).mono ?_
             (case side1 => repeat (first | exact (Kd.R_reads' HO330.out).2.2 | (with_reducible refine Kd.C_alloc ?_ _) | (with_reducible refine Kd.C_drewN ?_ _) | (with_reducible refine Kd.C_drew ?_)))
             (case side2 => exact (Kd.R_reads' HO330.out).2.1)
             rintro e w98 ⟨v336, rfl, ho0, hb⟩
             refine ⟨_, rfl, ?_⟩
             have n0_ := Aside0.mk (Kd.R_elder' (by (with_reducible repeat (first | apply Kd.R_alloc | apply Kd.R_drewN | apply Kd.R_drew)); exact HO293.out) (Kd.R_base ho0) hb)
             have n1_ := Aside0.mk (Kd.R_elder' (by (with_reducible repeat (first | apply Kd.R_alloc | apply Kd.R_drewN | apply Kd.R_drew)); exact HO300.out) (Kd.R_base ho0) hb)
             have n2_ := Aside0.mk (Kd.R_elder' (by (with_reducible repeat (first | apply Kd.R_alloc | apply Kd.R_drewN | apply Kd.R_drew)); exact HO305.out) (Kd.R_base ho0) hb)
             have n3_ := Aside0.mk (Kd.R_elder' (by (with_reducible repeat (first | apply Kd.R_alloc | apply Kd.R_drewN | apply Kd.R_drew)); exact HO313.out) (Kd.R_base ho0) hb)
             have n4_ := Aside0.mk (Kd.R_elder' (by (with_reducible repeat (first | apply Kd.R_alloc | apply Kd.R_drewN | apply Kd.R_drew)); exact HO319.out) (Kd.R_base ho0) hb)
             have n5_ := Aside0.mk (Kd.R_elder' (by (with_reducible repeat (first | apply Kd.R_alloc | apply Kd.R_drewN | apply Kd.R_drew)); exact HO330.out) (Kd.R_base ho0) hb)
             have n6_ := Aside0.mk (Kd.R_lower (Kd.R_new' (Kd.R_new' (Kd.R_new' (Kd.R_new' (Kd.R_new' (Kd.R_new' ho0 (Kd.R_lt (by (with_reducible repeat (first | apply Kd.R_alloc | apply Kd.R_drewN | apply Kd.R_drew)); exact HO293.out))) (Kd.R_lt (by (with_reducible repeat (first | apply Kd.R_alloc | apply Kd.R_drewN | apply Kd.R_drew)); exact HO300.out))) (Kd.R_lt (by (with_reducible repeat (first | apply Kd.R_alloc | apply Kd.R_drewN | apply Kd.R_drew)); exact HO305.out))) (Kd.R_lt (by (with_reducible repeat (first | apply Kd.R_alloc | apply Kd.R_drewN | apply Kd.R_drew)); exact HO313.out))) (Kd.R_lt (by (with_reducible repeat (first | apply Kd.R_alloc | apply Kd.R_drewN | apply Kd.R_drew)); exact HO319.out))) (Kd.R_lt (by (with_reducible repeat (first | apply Kd.R_alloc | apply Kd.R_drewN | apply Kd.R_drew)); exact HO330.out))) (below_size (by repeat (first | (with_reducible first | exact HB.out | apply below_alloc | apply pw_below_drewN | apply below_drew1 | refine below_set ?_ GE287.out | refine below_set ?_ GE288.out | refine below_set ?_ GE301.out | refine below_set ?_ GE306.out | refine below_set ?_ GE314.out | refine below_set ?_ GE338.out) | exact HB.out))))
             have n7_ := Aside0.mk (blkb hb BK287.out)
             have n8_ := Aside0.mk (blkb hb BK288.out)
             have n9_ := Aside0.mk (blkb hb BK301.out)
             have n10_ := Aside0.mk (blkb hb BK306.out)
             have n11_ := Aside0.mk (blkb hb BK314.out)
             have n12_ := Aside0.mk (blkb hb BK338.out)
             have n13_ := Aside0.mk (below_step (by repeat (first | (with_reducible first | exact HB.out | apply below_alloc | apply pw_below_drewN | apply below_drew1 | refine below_set ?_ GE287.out | refine below_set ?_ GE288.out | refine below_set ?_ GE301.out | refine below_set ?_ GE306.out | refine below_set ?_ GE314.out | refine below_set ?_ GE338.out) | exact HB.out)) hb)
             clear HO293
             clear HO300
             clear HO305
             clear HO313
             clear HO319
             clear HO330
             clear BK287
             clear BK288
             clear BK301
             clear BK306
             clear BK314
             clear BK338
             clear HB
             have HO293 := n0_
             have HO300 := n1_
             have HO305 := n2_
             have HO313 := n3_
             have HO319 := n4_
             have HO330 := n5_
             have HO337 := n6_
             have BK287 := n7_
             have BK288 := n8_
             have BK301 := n9_
             have BK306 := n10_
             have BK314 := n11_
             have BK338 := n12_
             have HB := n13_
             clear n0_ n1_ n2_ n3_ n4_ n5_ n6_ n7_ n8_ n9_ n10_ n11_ n12_ n13_
             (try clear hb)
             (try clear hb2)
             (try clear hk)
             (try clear hi)
             (try clear ho0)
             refine hK.out _ _ ⟨(blk_cell BK287.out 0).trans rfl, (blk_cell BK287.out 1).trans rfl, (blk_cell BK288.out 0).trans rfl, (blk_cell BK288.out 1).trans rfl⟩ (fun hHeld => ?_)
             clear hK K
             refine norm_ (a' := ?_) ?_ ?_
             rotate_left
             ·show Act.put _ (some 64) _ = _
              simp only [Act.put, List.setIfInBounds_toArray, List.set_cons_zero, List.set_cons_succ, i64_w, i32_w]
              rfl
             exact norm_ (by simp only [putAll, Act.put, List.setIfInBounds_toArray, List.set_cons_zero, List.set_cons_succ]) (hCont (.slice Ao97 t328.length co97, v336, gb338) _ ⟨hHeld, (by (with_reducible repeat (first | apply Kd.R_alloc | apply Kd.R_drewN | apply Kd.R_drew)); exact Kd.R_mono HO293.out (fun _ hk => ⟨hk.1.1.1, ⟨hk.1.1.2.1, ⟨hk.1.1.2.2.1, ⟨hk.1.1.2.2.2, ⟨hk.1.2, hk.2⟩⟩⟩⟩⟩)), (by (with_reducible repeat (first | apply Kd.R_alloc | apply Kd.R_drewN | apply Kd.R_drew)); exact Kd.R_mono HO300.out (fun _ hk => ⟨hk.1.1.1, ⟨hk.1.1.2.1, ⟨hk.1.1.2.2.1, ⟨hk.1.1.2.2.2, ⟨hk.1.2, hk.2⟩⟩⟩⟩⟩)), (by (with_reducible repeat (first | apply Kd.R_alloc | apply Kd.R_drewN | apply Kd.R_drew)); exact Kd.R_mono HO305.out (fun _ hk => ⟨hk.1.1.1, ⟨hk.1.1.2.1, ⟨hk.1.1.2.2.1, ⟨hk.1.1.2.2.2, ⟨hk.1.2, hk.2⟩⟩⟩⟩⟩)), (by (with_reducible repeat (first | apply Kd.R_alloc | apply Kd.R_drewN | apply Kd.R_drew)); exact Kd.R_mono HO313.out (fun _ hk => ⟨hk.1.1.1, ⟨hk.1.1.2.1, ⟨hk.1.1.2.2.1, ⟨hk.1.1.2.2.2, ⟨hk.1.2, hk.2⟩⟩⟩⟩⟩)), (by (with_reducible repeat (first | apply Kd.R_alloc | apply Kd.R_drewN | apply Kd.R_drew)); exact Kd.R_mono HO319.out (fun _ hk => ⟨hk.1.1.1, ⟨hk.1.1.2.1, ⟨hk.1.1.2.2.1, ⟨hk.1.1.2.2.2, ⟨hk.1.2, hk.2⟩⟩⟩⟩⟩)), (by (with_reducible repeat (first | apply Kd.R_alloc | apply Kd.R_drewN | apply Kd.R_drew)); exact Kd.R_mono HO330.out (fun _ hk => ⟨hk.1.1.1.1.1.2, ⟨hk.1.1.1.1.2, ⟨hk.1.1.1.2, ⟨hk.1.1.2, ⟨hk.1.2, hk.2⟩⟩⟩⟩⟩)), (by (with_reducible repeat (first | apply Kd.R_alloc | apply Kd.R_drewN | apply Kd.R_drew)); exact Kd.R_mono HO337.out (fun _ hk => ⟨hk.1.1.1.1.1.2, ⟨hk.1.1.1.1.2, ⟨hk.1.1.1.2, ⟨hk.1.1.2, ⟨hk.1.2, hk.2⟩⟩⟩⟩⟩)), (by (with_reducible repeat (first | refine blk_drewN ?_ _ | refine blk_drew ?_ | refine blk_alloc ?_ _)); exact BK287.out), (by (with_reducible repeat (first | refine blk_drewN ?_ _ | refine blk_drew ?_ | refine blk_alloc ?_ _)); exact BK288.out), (by (with_reducible repeat (first | refine blk_drewN ?_ _ | refine blk_drew ?_ | refine blk_alloc ?_ _)); exact BK301.out), (by (with_reducible repeat (first | refine blk_drewN ?_ _ | refine blk_drew ?_ | refine blk_alloc ?_ _)); exact BK306.out), (by (with_reducible repeat (first | refine blk_drewN ?_ _ | refine blk_drew ?_ | refine blk_alloc ?_ _)); exact BK314.out), (by (with_reducible repeat (first | refine blk_drewN ?_ _ | refine blk_drew ?_ | refine blk_alloc ?_ _)); exact BK338.out), GW338.out, GE338.out, NB287_338.out, NB338_287.out, NB288_338.out, NB338_288.out, NB301_338.out, NB338_301.out, NB306_338.out, NB338_306.out, NB314_338.out, NB338_314.out, (by repeat (first | (with_reducible first | exact HB.out | apply below_alloc | apply pw_below_drewN | apply below_drew1 | refine below_set ?_ GE287.out | refine below_set ?_ GE288.out | refine below_set ?_ GE301.out | refine below_set ?_ GE306.out | refine below_set ?_ GE314.out | refine below_set ?_ GE338.out) | exact HB.out))⟩)
           rintro ⟨v329, v336, gb338⟩ w99 ⟨hS_, h0_, h1_, h2_, h3_, h4_, h5_, h6_, h7_, h8_, h9_, h10_, h11_, h12_, h13_, h14_, h15_, h16_, h17_, h18_, h19_, h20_, h21_, h22_, h23_, h24_, h25_⟩
           have n0_ : Aside0 (Kd.R k28 28 w99 w.heap.size (fun k_ => some k_ ≠ (.slice Ao51 t298.length co51 : Value).ownBlock ∧ some k_ ≠ (.slice Ao61 t303.length co61 : Value).ownBlock ∧ some k_ ≠ (.slice Ao70 t311.length co70 : Value).ownBlock ∧ some k_ ≠ (.slice Ao82 t317.length co82 : Value).ownBlock ∧ some k_ ≠ (v329 : Value).ownBlock ∧ some k_ ≠ (v336 : Value).ownBlock) v292 t291) := ⟨h0_⟩
           have n1_ : Aside0 (Kd.R k28 28 w99 w.heap.size (fun k_ => some k_ ≠ (v292 : Value).ownBlock ∧ some k_ ≠ (.slice Ao61 t303.length co61 : Value).ownBlock ∧ some k_ ≠ (.slice Ao70 t311.length co70 : Value).ownBlock ∧ some k_ ≠ (.slice Ao82 t317.length co82 : Value).ownBlock ∧ some k_ ≠ (v329 : Value).ownBlock ∧ some k_ ≠ (v336 : Value).ownBlock) (.slice Ao51 t298.length co51) t298) := ⟨h1_⟩
           have n2_ : Aside0 (Kd.R k28 28 w99 w.heap.size (fun k_ => some k_ ≠ (v292 : Value).ownBlock ∧ some k_ ≠ (.slice Ao51 t298.length co51 : Value).ownBlock ∧ some k_ ≠ (.slice Ao70 t311.length co70 : Value).ownBlock ∧ some k_ ≠ (.slice Ao82 t317.length co82 : Value).ownBlock ∧ some k_ ≠ (v329 : Value).ownBlock ∧ some k_ ≠ (v336 : Value).ownBlock) (.slice Ao61 t303.length co61) t322) := ⟨h2_⟩
           have n3_ : Aside0 (Kd.R k28 28 w99 w.heap.size (fun k_ => some k_ ≠ (v292 : Value).ownBlock ∧ some k_ ≠ (.slice Ao51 t298.length co51 : Value).ownBlock ∧ some k_ ≠ (.slice Ao61 t303.length co61 : Value).ownBlock ∧ some k_ ≠ (.slice Ao82 t317.length co82 : Value).ownBlock ∧ some k_ ≠ (v329 : Value).ownBlock ∧ some k_ ≠ (v336 : Value).ownBlock) (.slice Ao70 t311.length co70) t325) := ⟨h3_⟩
           have n4_ : Aside0 (Kd.R k28 28 w99 w.heap.size (fun k_ => some k_ ≠ (v292 : Value).ownBlock ∧ some k_ ≠ (.slice Ao51 t298.length co51 : Value).ownBlock ∧ some k_ ≠ (.slice Ao61 t303.length co61 : Value).ownBlock ∧ some k_ ≠ (.slice Ao70 t311.length co70 : Value).ownBlock ∧ some k_ ≠ (v329 : Value).ownBlock ∧ some k_ ≠ (v336 : Value).ownBlock) (.slice Ao82 t317.length co82) t317) := ⟨h4_⟩
           have n5_ : Aside0 (Kd.R k28 28 w99 w.heap.size (fun k_ => some k_ ≠ (v292 : Value).ownBlock ∧ some k_ ≠ (.slice Ao51 t298.length co51 : Value).ownBlock ∧ some k_ ≠ (.slice Ao61 t303.length co61 : Value).ownBlock ∧ some k_ ≠ (.slice Ao70 t311.length co70 : Value).ownBlock ∧ some k_ ≠ (.slice Ao82 t317.length co82 : Value).ownBlock ∧ some k_ ≠ (v336 : Value).ownBlock) v329 t328) := ⟨h5_⟩
           have n6_ : Aside0 (Kd.R k28 28 w99 w.heap.size (fun k_ => some k_ ≠ (v292 : Value).ownBlock ∧ some k_ ≠ (.slice Ao51 t298.length co51 : Value).ownBlock ∧ some k_ ≠ (.slice Ao61 t303.length co61 : Value).ownBlock ∧ some k_ ≠ (.slice Ao70 t311.length co70 : Value).ownBlock ∧ some k_ ≠ (.slice Ao82 t317.length co82 : Value).ownBlock ∧ some k_ ≠ (v329 : Value).ownBlock) v336 t335) := ⟨h6_⟩
           have n7_ : Aside0 (w99.heap[gb287]? = some (.cells #[.int .i64 a0_0, .slice A0_1 l0_1.length c0_1] 41 (0, 0))) := ⟨h7_⟩
           have n8_ : Aside0 (w99.heap[gb288]? = some (.cells #[.int .i64 a1_0, .int .i64 a1_1] 42 (0, 0))) := ⟨h8_⟩
           have n9_ : Aside0 (w99.heap[gb301]? = some (.cells #[.int .i64 t296, .int .i64 t297, .slice Ao51 t298.length co51] 32 (0, 0))) := ⟨h9_⟩
           have n10_ : Aside0 (w99.heap[gb306]? = some (.cells #[.int .i64 t302, .slice Ao61 t303.length co61] 26 (0, 0))) := ⟨h10_⟩
           have n11_ : Aside0 (w99.heap[gb314]? = some (.cells #[.int .i64 t309, .int .i64 t310, .slice Ao70 t311.length co70] 32 (0, 0))) := ⟨h11_⟩
           have n12_ : Aside0 (w99.heap[gb338]? = some (.cells #[.int .i64 0, .int .i64 0, .slice none 0 0] 32 (0, 0))) := ⟨h12_⟩
           have n13_ : Aside0 (w.heap.size ≤ gb338) := ⟨h13_⟩
           have n14_ : Aside0 (w.heap.size ≤ gb338) := ⟨h14_⟩
           have n15_ : Aside0 (gb287 ≠ gb338) := ⟨h15_⟩
           have n16_ : Aside0 (gb338 ≠ gb287) := ⟨h16_⟩
           have n17_ : Aside0 (gb288 ≠ gb338) := ⟨h17_⟩
           have n18_ : Aside0 (gb338 ≠ gb288) := ⟨h18_⟩
           have n19_ : Aside0 (gb301 ≠ gb338) := ⟨h19_⟩
           have n20_ : Aside0 (gb338 ≠ gb301) := ⟨h20_⟩
           have n21_ : Aside0 (gb306 ≠ gb338) := ⟨h21_⟩
           have n22_ : Aside0 (gb338 ≠ gb306) := ⟨h22_⟩
           have n23_ : Aside0 (gb314 ≠ gb338) := ⟨h23_⟩
           have n24_ : Aside0 (gb338 ≠ gb314) := ⟨h24_⟩
           have n25_ : Aside0 (Below w.heap.size w w99) := ⟨h25_⟩
           clear HO293
           clear HO300
           clear HO305
           clear HO313
           clear HO319
           clear BK287
           clear BK288
           clear BK301
           clear BK306
           clear BK314
           clear HB
           clear h0_ h1_ h2_ h3_ h4_ h5_ h6_ h7_ h8_ h9_ h10_ h11_ h12_ h13_ h14_ h15_ h16_ h17_ h18_ h19_ h20_ h21_ h22_ h23_ h24_ h25_
           have HO293 := n0_
           have HO300 := n1_
           have HO305 := n2_
           have HO313 := n3_
           have HO319 := n4_
           have HO330 := n5_
           have HO337 := n6_
           have BK287 := n7_
           have BK288 := n8_
           have BK301 := n9_
           have BK306 := n10_
           have BK314 := n11_
           have BK338 := n12_
           have GW338 := n13_
           have GE338 := n14_
           have NB287_338 := n15_
           have NB338_287 := n16_
           have NB288_338 := n17_
           have NB338_288 := n18_
           have NB301_338 := n19_
           have NB338_301 := n20_
           have NB306_338 := n21_
           have NB338_306 := n22_
           have NB314_338 := n23_
           have NB338_314 := n24_
           have HB := n25_
           clear n0_ n1_ n2_ n3_ n4_ n5_ n6_ n7_ n8_ n9_ n10_ n11_ n12_ n13_ n14_ n15_ n16_ n17_ n18_ n19_ n20_ n21_ n22_ n23_ n24_ n25_
           have hHeld : w99.cell? ⟨gb287, 0, none⟩ = some (.int .i64 a0_0) ∧ w99.cell? ⟨gb287, 1, none⟩ = some (.slice A0_1 l0_1.length c0_1) ∧ w99.cell? ⟨gb288, 0, none⟩ = some (.int .i64 a1_0) ∧ w99.cell? ⟨gb288, 1, none⟩ = some (.int .i64 a1_1) := hS_
           obtain ⟨Ao102, co102, eo102⟩ := Kd.R_slice HO337.out
           (first | subst eo102 | (injection eo102 with f1_ f2_ f3_; have f4_ := f1_.symm; have f5_ := f3_.symm; clear f1_ f2_ f3_; subst f4_; subst f5_))
           refine norm_ (a' := ?_) ?_ ?_
           rotate_left
           ·simp only [putAll, Act.put, List.setIfInBounds_toArray, List.set_cons_zero, List.set_cons_succ]
            rfl
           refine one_ (i := 6) (N := none) #[true, true, true, true, true, true, true] rfl rfl (by kernel_rfl) (by decide) (fun K hK => ?_)
           have hs100 : w99.cell? ⟨gb338, 0, none⟩ = some (.int .i64 0) := (blk_cell BK338.out 0).trans rfl
           have hfs100 := blk_frozen BK338.out 0
           have hns100_0 := NB287_338.out
           have hns100_1 := NB288_338.out
           have hns100_2 := NB301_338.out
           have hns100_3 := NB306_338.out
           have hns100_4 := NB314_338.out
           have hms100_0 := NB338_287.out
           have hms100_1 := NB338_288.out
           have hms100_2 := NB338_301.out
           have hms100_3 := NB338_306.out
           have hms100_4 := NB338_314.out
           have hs101 : w99.cell? ⟨gb338, 1, none⟩ = some (.int .i64 0) := (blk_cell BK338.out 1).trans rfl
           have hfs101 := blk_frozen BK338.out 1
           have hns101_0 := NB287_338.out
           have hns101_1 := NB288_338.out
           have hns101_2 := NB301_338.out
           have hns101_3 := NB306_338.out
           have hns101_4 := NB314_338.out
           have hms101_0 := NB338_287.out
           have hms101_1 := NB338_288.out
           have hms101_2 := NB338_301.out
           have hms101_3 := NB338_306.out
           have hms101_4 := NB338_314.out
           have hs103 : w99.cell? ⟨gb338, 2, none⟩ = some (.slice none 0 0) := (blk_cell BK338.out 2).trans rfl
           have hfs103 := blk_frozen BK338.out 2
           have hns103_0 := NB287_338.out
           have hns103_1 := NB288_338.out
           have hns103_2 := NB301_338.out
           have hns103_3 := NB306_338.out
           have hns103_4 := NB314_338.out
           have hms103_0 := NB338_287.out
           have hms103_1 := NB338_288.out
           have hms103_2 := NB338_301.out
           have hms103_3 := NB338_306.out
           have hms103_4 := NB338_314.out
           refine skip_ (w1 := ?_) (by rfl) rfl ?_ ?_
           rotate_left
           ·go_simp
            rfl
           refine hK.out _ _ ⟨((cell_far (p := ⟨gb338, _, none⟩) NB287_338.out _).trans (((cell_far (p := ⟨gb338, _, none⟩) NB287_338.out _).trans (((cell_far (p := ⟨gb338, _, none⟩) NB287_338.out _).trans (hHeld.1)))))), ((cell_far (p := ⟨gb338, _, none⟩) NB287_338.out _).trans (((cell_far (p := ⟨gb338, _, none⟩) NB287_338.out _).trans (((cell_far (p := ⟨gb338, _, none⟩) NB287_338.out _).trans (hHeld.2.1)))))), ((cell_far (p := ⟨gb338, _, none⟩) NB288_338.out _).trans (((cell_far (p := ⟨gb338, _, none⟩) NB288_338.out _).trans (((cell_far (p := ⟨gb338, _, none⟩) NB288_338.out _).trans (hHeld.2.2.1)))))), ((cell_far (p := ⟨gb338, _, none⟩) NB288_338.out _).trans (((cell_far (p := ⟨gb338, _, none⟩) NB288_338.out _).trans (((cell_far (p := ⟨gb338, _, none⟩) NB288_338.out _).trans (hHeld.2.2.2))))))⟩ (fun hHeld => ?_)
           clear hK K
           refine done_ (by kernel_rfl) ?_
           have hnb104 := NB338_287.out
           have hnc104 := NB287_338.out
           have hnb105 := NB338_288.out
           have hnc105 := NB288_338.out
           have hnb106 := NB338_301.out
           have hnc106 := NB301_338.out
           have hnb107 := NB338_306.out
           have hnc107 := NB306_338.out
           have hnb108 := NB338_314.out
           have hnc108 := NB314_338.out
           have hcz109_0 : w99.cell? ⟨gb338, 0, none⟩ = some (.int .i64 0) := (blk_cell BK338.out 0).trans rfl
           have hcz109_1 : w99.cell? ⟨gb338, 1, none⟩ = some (.int .i64 0) := (blk_cell BK338.out 1).trans rfl
           have hcz109_2 : w99.cell? ⟨gb338, 2, none⟩ = some (.slice none 0 0) := (blk_cell BK338.out 2).trans rfl
           have hfz109_0 := blk_frozen BK338.out 0
           have hfz109_1 := blk_frozen BK338.out 1
           have hfz109_2 := blk_frozen BK338.out 2
           have hcz110_0 : w99.cell? ⟨gb301, 0, none⟩ = some (.int .i64 t296) := (blk_cell BK301.out 0).trans rfl
           have hcz110_1 : w99.cell? ⟨gb301, 1, none⟩ = some (.int .i64 t297) := (blk_cell BK301.out 1).trans rfl
           have hcz110_2 : w99.cell? ⟨gb301, 2, none⟩ = some (.slice Ao51 t298.length co51) := (blk_cell BK301.out 2).trans rfl
           have hfz110_0 := blk_frozen BK301.out 0
           have hfz110_1 := blk_frozen BK301.out 1
           have hfz110_2 := blk_frozen BK301.out 2
           try go_wp2_with (first | ((with_reducible refine gate_callee (f := 18) rfl ?_); refine goesL_ (some 67) rfl rfl Try.func18 (by kernel_rfl) rfl #[.agg #[.int .i64 t333, .int .i64 t334, .slice Ao102 t335.length co102], .agg #[.int .i64 t296, .int .i64 t297, .slice Ao51 t298.length co51]] rfl (by (try simp only [List.map_toArray, List.map_cons, List.map_nil]); first | done | rfl | (simp only [List.length_drop, List.length_take]; rfl)) ?_; (with_reducible refine (laws_eqFontResult.calls k t333 t334 _ _ t335 t296 t297 _ _ t298  _ ?side1 ?side2 ?side3 ?side4 A32.out).mono ?_); (case side1 => refine (Kd.R_reads' (e := 28) (base := w.heap.size) (ok := fun k_ => (some k_ ≠ (v292 : Value).ownBlock ∧ (some k_ ≠ (.slice Ao51 t298.length co51 : Value).ownBlock ∧ (some k_ ≠ (.slice Ao61 t303.length co61 : Value).ownBlock ∧ (some k_ ≠ (.slice Ao70 t311.length co70 : Value).ownBlock ∧ (some k_ ≠ (.slice Ao82 t317.length co82 : Value).ownBlock ∧ some k_ ≠ (v329 : Value).ownBlock)))))) (n := t335.length) (c := co102) ?_).2.2; exact (by (with_reducible repeat (first | apply Kd.R_alloc | apply Kd.R_drewN | apply Kd.R_drew)); exact (Kd.R_mono (Kd.R_far (p := ⟨gb338, 2, none⟩) (Kd.R_far (p := ⟨gb338, 1, none⟩) (Kd.R_far (p := ⟨gb338, 0, none⟩) (Kd.R_types HO337.out BK338.out (by decide)) (fun _ hk => hk.2) (.int .i64 t333)) (fun _ hk => hk.2) (.int .i64 t334)) (fun _ hk => hk.2) (.slice Ao102 t335.length co102)) (fun _ h_ => h_.1)))); (case side2 => exact (Kd.R_reads' HO337.out).2.1); (case side3 => refine (Kd.R_reads' (e := 28) (base := w.heap.size) (ok := fun k_ => (some k_ ≠ (v292 : Value).ownBlock ∧ (some k_ ≠ (.slice Ao61 t303.length co61 : Value).ownBlock ∧ (some k_ ≠ (.slice Ao70 t311.length co70 : Value).ownBlock ∧ (some k_ ≠ (.slice Ao82 t317.length co82 : Value).ownBlock ∧ (some k_ ≠ (v329 : Value).ownBlock ∧ some k_ ≠ (.slice Ao102 t335.length co102 : Value).ownBlock)))))) (n := t298.length) (c := co51) ?_).2.2; exact (by (with_reducible repeat (first | apply Kd.R_alloc | apply Kd.R_drewN | apply Kd.R_drew)); exact (Kd.R_mono (Kd.R_far (p := ⟨gb338, 2, none⟩) (Kd.R_far (p := ⟨gb338, 1, none⟩) (Kd.R_far (p := ⟨gb338, 0, none⟩) (Kd.R_types HO300.out BK338.out (by decide)) (fun _ hk => hk.2) (.int .i64 t333)) (fun _ hk => hk.2) (.int .i64 t334)) (fun _ hk => hk.2) (.slice Ao102 t335.length co102)) (fun _ h_ => h_.1)))); (case side4 => exact (Kd.R_reads' HO300.out).2.1); rintro e w111 ⟨rfl, hb⟩; refine ⟨_, rfl, ?_⟩; have n0_ := Aside0.mk (Kd.R_below (by (with_reducible repeat (first | apply Kd.R_alloc | apply Kd.R_drewN | apply Kd.R_drew)); exact (Kd.R_mono (Kd.R_far (p := ⟨gb338, 2, none⟩) (Kd.R_far (p := ⟨gb338, 1, none⟩) (Kd.R_far (p := ⟨gb338, 0, none⟩) (Kd.R_types HO293.out BK338.out (by decide)) (fun _ hk => hk.2) (.int .i64 t333)) (fun _ hk => hk.2) (.int .i64 t334)) (fun _ hk => hk.2) (.slice Ao102 t335.length co102)) (fun _ h_ => h_.1))) hb); have n1_ := Aside0.mk (Kd.R_below (by (with_reducible repeat (first | apply Kd.R_alloc | apply Kd.R_drewN | apply Kd.R_drew)); exact (Kd.R_mono (Kd.R_far (p := ⟨gb338, 2, none⟩) (Kd.R_far (p := ⟨gb338, 1, none⟩) (Kd.R_far (p := ⟨gb338, 0, none⟩) (Kd.R_types HO300.out BK338.out (by decide)) (fun _ hk => hk.2) (.int .i64 t333)) (fun _ hk => hk.2) (.int .i64 t334)) (fun _ hk => hk.2) (.slice Ao102 t335.length co102)) (fun _ h_ => h_.1))) hb); have n2_ := Aside0.mk (Kd.R_below (by (with_reducible repeat (first | apply Kd.R_alloc | apply Kd.R_drewN | apply Kd.R_drew)); exact (Kd.R_mono (Kd.R_far (p := ⟨gb338, 2, none⟩) (Kd.R_far (p := ⟨gb338, 1, none⟩) (Kd.R_far (p := ⟨gb338, 0, none⟩) (Kd.R_types HO305.out BK338.out (by decide)) (fun _ hk => hk.2) (.int .i64 t333)) (fun _ hk => hk.2) (.int .i64 t334)) (fun _ hk => hk.2) (.slice Ao102 t335.length co102)) (fun _ h_ => h_.1))) hb); have n3_ := Aside0.mk (Kd.R_below (by (with_reducible repeat (first | apply Kd.R_alloc | apply Kd.R_drewN | apply Kd.R_drew)); exact (Kd.R_mono (Kd.R_far (p := ⟨gb338, 2, none⟩) (Kd.R_far (p := ⟨gb338, 1, none⟩) (Kd.R_far (p := ⟨gb338, 0, none⟩) (Kd.R_types HO313.out BK338.out (by decide)) (fun _ hk => hk.2) (.int .i64 t333)) (fun _ hk => hk.2) (.int .i64 t334)) (fun _ hk => hk.2) (.slice Ao102 t335.length co102)) (fun _ h_ => h_.1))) hb); have n4_ := Aside0.mk (Kd.R_below (by (with_reducible repeat (first | apply Kd.R_alloc | apply Kd.R_drewN | apply Kd.R_drew)); exact (Kd.R_mono (Kd.R_far (p := ⟨gb338, 2, none⟩) (Kd.R_far (p := ⟨gb338, 1, none⟩) (Kd.R_far (p := ⟨gb338, 0, none⟩) (Kd.R_types HO319.out BK338.out (by decide)) (fun _ hk => hk.2) (.int .i64 t333)) (fun _ hk => hk.2) (.int .i64 t334)) (fun _ hk => hk.2) (.slice Ao102 t335.length co102)) (fun _ h_ => h_.1))) hb); have n5_ := Aside0.mk (Kd.R_below (by (with_reducible repeat (first | apply Kd.R_alloc | apply Kd.R_drewN | apply Kd.R_drew)); exact (Kd.R_mono (Kd.R_far (p := ⟨gb338, 2, none⟩) (Kd.R_far (p := ⟨gb338, 1, none⟩) (Kd.R_far (p := ⟨gb338, 0, none⟩) (Kd.R_types HO330.out BK338.out (by decide)) (fun _ hk => hk.2) (.int .i64 t333)) (fun _ hk => hk.2) (.int .i64 t334)) (fun _ hk => hk.2) (.slice Ao102 t335.length co102)) (fun _ h_ => h_.1))) hb); have n6_ := Aside0.mk (Kd.R_below (by (with_reducible repeat (first | apply Kd.R_alloc | apply Kd.R_drewN | apply Kd.R_drew)); exact (Kd.R_mono (Kd.R_far (p := ⟨gb338, 2, none⟩) (Kd.R_far (p := ⟨gb338, 1, none⟩) (Kd.R_far (p := ⟨gb338, 0, none⟩) (Kd.R_types HO337.out BK338.out (by decide)) (fun _ hk => hk.2) (.int .i64 t333)) (fun _ hk => hk.2) (.int .i64 t334)) (fun _ hk => hk.2) (.slice Ao102 t335.length co102)) (fun _ h_ => h_.1))) hb); have n7_ := Aside0.mk (blk_below (g := gb287) (o := .cells #[.int .i64 a0_0, .slice A0_1 l0_1.length c0_1] 41 (0, 0)) (by (with_reducible repeat (first | refine blk_drewN ?_ _ | refine blk_drew ?_ | refine blk_alloc ?_ _)); refine blk_far ?_ NB287_338.out _; (with_reducible repeat (first | refine blk_drewN ?_ _ | refine blk_drew ?_ | refine blk_alloc ?_ _)); refine blk_far ?_ NB287_338.out _; (with_reducible repeat (first | refine blk_drewN ?_ _ | refine blk_drew ?_ | refine blk_alloc ?_ _)); refine blk_far ?_ NB287_338.out _; (with_reducible repeat (first | refine blk_drewN ?_ _ | refine blk_drew ?_ | refine blk_alloc ?_ _)); exact BK287.out) hb); have n8_ := Aside0.mk (blk_below (g := gb288) (o := .cells #[.int .i64 a1_0, .int .i64 a1_1] 42 (0, 0)) (by (with_reducible repeat (first | refine blk_drewN ?_ _ | refine blk_drew ?_ | refine blk_alloc ?_ _)); refine blk_far ?_ NB288_338.out _; (with_reducible repeat (first | refine blk_drewN ?_ _ | refine blk_drew ?_ | refine blk_alloc ?_ _)); refine blk_far ?_ NB288_338.out _; (with_reducible repeat (first | refine blk_drewN ?_ _ | refine blk_drew ?_ | refine blk_alloc ?_ _)); refine blk_far ?_ NB288_338.out _; (with_reducible repeat (first | refine blk_drewN ?_ _ | refine blk_drew ?_ | refine blk_alloc ?_ _)); exact BK288.out) hb); have n9_ := Aside0.mk (blk_below (g := gb301) (o := .cells #[.int .i64 t296, .int .i64 t297, .slice Ao51 t298.length co51] 32 (0, 0)) (by (with_reducible repeat (first | refine blk_drewN ?_ _ | refine blk_drew ?_ | refine blk_alloc ?_ _)); refine blk_far ?_ NB301_338.out _; (with_reducible repeat (first | refine blk_drewN ?_ _ | refine blk_drew ?_ | refine blk_alloc ?_ _)); refine blk_far ?_ NB301_338.out _; (with_reducible repeat (first | refine blk_drewN ?_ _ | refine blk_drew ?_ | refine blk_alloc ?_ _)); refine blk_far ?_ NB301_338.out _; (with_reducible repeat (first | refine blk_drewN ?_ _ | refine blk_drew ?_ | refine blk_alloc ?_ _)); exact BK301.out) hb); have n10_ := Aside0.mk (blk_below (g := gb306) (o := .cells #[.int .i64 t302, .slice Ao61 t303.length co61] 26 (0, 0)) (by (with_reducible repeat (first | refine blk_drewN ?_ _ | refine blk_drew ?_ | refine blk_alloc ?_ _)); refine blk_far ?_ NB306_338.out _; (with_reducible repeat (first | refine blk_drewN ?_ _ | refine blk_drew ?_ | refine blk_alloc ?_ _)); refine blk_far ?_ NB306_338.out _; (with_reducible repeat (first | refine blk_drewN ?_ _ | refine blk_drew ?_ | refine blk_alloc ?_ _)); refine blk_far ?_ NB306_338.out _; (with_reducible repeat (first | refine blk_drewN ?_ _ | refine blk_drew ?_ | refine blk_alloc ?_ _)); exact BK306.out) hb); have n11_ := Aside0.mk (blk_below (g := gb314) (o := .cells #[.int .i64 t309, .int .i64 t310, .slice Ao70 t311.length co70] 32 (0, 0)) (by (with_reducible repeat (first | refine blk_drewN ?_ _ | refine blk_drew ?_ | refine blk_alloc ?_ _)); refine blk_far ?_ NB314_338.out _; (with_reducible repeat (first | refine blk_drewN ?_ _ | refine blk_drew ?_ | refine blk_alloc ?_ _)); refine blk_far ?_ NB314_338.out _; (with_reducible repeat (first | refine blk_drewN ?_ _ | refine blk_drew ?_ | refine blk_alloc ?_ _)); refine blk_far ?_ NB314_338.out _; (with_reducible repeat (first | refine blk_drewN ?_ _ | refine blk_drew ?_ | refine blk_alloc ?_ _)); exact BK314.out) hb); have n12_ := Aside0.mk (blk_below (g := gb338) (o := .cells #[.int .i64 t333, .int .i64 t334, .slice Ao102 t335.length co102] 32 (0, 0)) (by (with_reducible repeat (first | refine blk_drewN ?_ _ | refine blk_drew ?_ | refine blk_alloc ?_ _)); refine blk_put (cs := #[.int .i64 t333, .int .i64 t334, .slice none 0 0]) ?_ 2 _ rfl; (with_reducible repeat (first | refine blk_drewN ?_ _ | refine blk_drew ?_ | refine blk_alloc ?_ _)); refine blk_put (cs := #[.int .i64 t333, .int .i64 0, .slice none 0 0]) ?_ 1 _ rfl; (with_reducible repeat (first | refine blk_drewN ?_ _ | refine blk_drew ?_ | refine blk_alloc ?_ _)); refine blk_put (cs := #[.int .i64 0, .int .i64 0, .slice none 0 0]) ?_ 0 _ rfl; (with_reducible repeat (first | refine blk_drewN ?_ _ | refine blk_drew ?_ | refine blk_alloc ?_ _)); exact BK338.out) hb); have n13_ := Aside0.mk (below_step (by repeat (first | (with_reducible first | exact HB.out | apply below_alloc | apply pw_below_drewN | apply below_drew1 | refine below_set ?_ GE287.out | refine below_set ?_ GE288.out | refine below_set ?_ GE301.out | refine below_set ?_ GE306.out | refine below_set ?_ GE314.out | refine below_set ?_ GE338.out) | exact HB.out)) hb); clear HO293; clear HO300; clear HO305; clear HO313; clear HO319; clear HO330; clear HO337; clear BK287; clear BK288; clear BK301; clear BK306; clear BK314; clear BK338; clear HB; have HO293 := n0_; have HO300 := n1_; have HO305 := n2_; have HO313 := n3_; have HO319 := n4_; have HO330 := n5_; have HO337 := n6_; have BK287 := n7_; have BK288 := n8_; have BK301 := n9_; have BK306 := n10_; have BK314 := n11_; have BK338 := n12_; have HB := n13_; clear n0_ n1_ n2_ n3_ n4_ n5_ n6_ n7_ n8_ n9_ n10_ n11_ n12_ n13_; (try clear hb); (try clear hb2); (try clear hk); (try clear hi); have hcz112_0 : w111.cell? ⟨gb314, 0, none⟩ = some (.int .i64 t309) := (blk_cell BK314.out 0).trans rfl; have hcz112_1 : w111.cell? ⟨gb314, 1, none⟩ = some (.int .i64 t310) := (blk_cell BK314.out 1).trans rfl; have hcz112_2 : w111.cell? ⟨gb314, 2, none⟩ = some (.slice Ao70 t311.length co70) := (blk_cell BK314.out 2).trans rfl; have hfz112_0 := blk_frozen BK314.out 0; have hfz112_1 := blk_frozen BK314.out 1; have hfz112_2 := blk_frozen BK314.out 2) | ((with_reducible refine gate_callee (f := 22) rfl ?_); refine goesL_ (some 71) rfl rfl Try.func22 (by kernel_rfl) rfl #[.agg #[.int .i64 t309, .int .i64 t310, .slice Ao70 t325.length co70], .int .i64 1] rfl (by (try simp only [List.map_toArray, List.map_cons, List.map_nil]); first | done | (rw [show t325.length = t311.length from (Kd.R_reads' HO313.out).1.symm] <;> rfl) | rfl | (simp only [List.length_drop, List.length_take]; rfl)) ?_; (with_reducible refine (laws_heldFontResult.calls k t309 t310 _ _ t325 1 t340 _ ?side1 ?side2 A34.out).mono ?_); (case side1 => repeat (first | exact (Kd.R_reads' HO313.out).2.2 | (with_reducible refine Kd.C_alloc ?_ _) | (with_reducible refine Kd.C_drewN ?_ _) | (with_reducible refine Kd.C_drew ?_))); (case side2 => rw [show t325.length = t311.length from (Kd.R_reads' HO313.out).1.symm]; exact (Kd.R_reads' HO313.out).2.1); rintro e w113 ⟨rfl, hb⟩; refine ⟨_, rfl, ?_⟩; have n0_ := Aside0.mk (Kd.R_below (by (with_reducible repeat (first | apply Kd.R_alloc | apply Kd.R_drewN | apply Kd.R_drew)); exact HO293.out) hb); have n1_ := Aside0.mk (Kd.R_below (by (with_reducible repeat (first | apply Kd.R_alloc | apply Kd.R_drewN | apply Kd.R_drew)); exact HO300.out) hb); have n2_ := Aside0.mk (Kd.R_below (by (with_reducible repeat (first | apply Kd.R_alloc | apply Kd.R_drewN | apply Kd.R_drew)); exact HO305.out) hb); have n3_ := Aside0.mk (Kd.R_below (by (with_reducible repeat (first | apply Kd.R_alloc | apply Kd.R_drewN | apply Kd.R_drew)); exact HO313.out) hb); have n4_ := Aside0.mk (Kd.R_below (by (with_reducible repeat (first | apply Kd.R_alloc | apply Kd.R_drewN | apply Kd.R_drew)); exact HO319.out) hb); have n5_ := Aside0.mk (Kd.R_below (by (with_reducible repeat (first | apply Kd.R_alloc | apply Kd.R_drewN | apply Kd.R_drew)); exact HO330.out) hb); have n6_ := Aside0.mk (Kd.R_below (by (with_reducible repeat (first | apply Kd.R_alloc | apply Kd.R_drewN | apply Kd.R_drew)); exact HO337.out) hb); have n7_ := Aside0.mk (blkb hb BK287.out); have n8_ := Aside0.mk (blkb hb BK288.out); have n9_ := Aside0.mk (blkb hb BK301.out); have n10_ := Aside0.mk (blkb hb BK306.out); have n11_ := Aside0.mk (blkb hb BK314.out); have n12_ := Aside0.mk (blkb hb BK338.out); have n13_ := Aside0.mk (below_step (by repeat (first | (with_reducible first | exact HB.out | apply below_alloc | apply pw_below_drewN | apply below_drew1 | refine below_set ?_ GE287.out | refine below_set ?_ GE288.out | refine below_set ?_ GE301.out | refine below_set ?_ GE306.out | refine below_set ?_ GE314.out | refine below_set ?_ GE338.out) | exact HB.out)) hb); clear HO293; clear HO300; clear HO305; clear HO313; clear HO319; clear HO330; clear HO337; clear BK287; clear BK288; clear BK301; clear BK306; clear BK314; clear BK338; clear HB; have HO293 := n0_; have HO300 := n1_; have HO305 := n2_; have HO313 := n3_; have HO319 := n4_; have HO330 := n5_; have HO337 := n6_; have BK287 := n7_; have BK288 := n8_; have BK301 := n9_; have BK306 := n10_; have BK314 := n11_; have BK338 := n12_; have HB := n13_; clear n0_ n1_ n2_ n3_ n4_ n5_ n6_ n7_ n8_ n9_ n10_ n11_ n12_ n13_; (try clear hb); (try clear hb2); (try clear hk); (try clear hi)))
           go_ret
           exact ⟨by first | rfl | (simp [errW_none, errW_some] <;> rfl) | (simp [*, errW_none, errW_some] <;> rfl), by repeat (first | (with_reducible first | exact HB.out | apply below_alloc | apply pw_below_drewN | apply below_drew1 | refine below_set ?_ GE287.out | refine below_set ?_ GE288.out | refine below_set ?_ GE301.out | refine below_set ?_ GE306.out | refine below_set ?_ GE314.out | refine below_set ?_ GE338.out) | exact HB.out)⟩
          ·rw [if_neg c36] at H
           have c36b0 : (t340 == t324) = false := beq_eq_false_iff_ne.mpr c36
           have c36b1 : (t340 != t324) = true := bne_iff_ne.mpr c36
           exact absurd H (by simp)
        ·replace c33 := Bool.eq_false_iff.mpr c33
         subst c33
         have H1 : (some false) = some true := by rw [if_neg (show ¬ (false = true) by decide)] at H; (first | done | exact H)
         clear H
         have H := H1
         clear H1
         exact absurd H (by simp)
       ·rw [if_neg c28] at H
        have c28b0 : (t326 == t324) = false := beq_eq_false_iff_ne.mpr c28
        have c28b1 : (t326 != t324) = true := bne_iff_ne.mpr c28
        exact absurd H (by simp)
     ·replace c24 := Bool.eq_false_iff.mpr c24
      subst c24
      have H1 : (some false) = some true := by rw [if_neg (show ¬ (false = true) by decide)] at H; (first | done | exact H)
      clear H
      have H := H1
      clear H1
      exact absurd H (by simp)
   ·replace c20 := Bool.eq_false_iff.mpr c20
    subst c20
    have H1 : (some false) = some true := by rw [if_neg (show ¬ (false = true) by decide)] at H; (first | done | exact H)
    clear H
    have H := H1
    clear H1
    exact absurd H (by simp)
  ·replace c17 := Bool.eq_false_iff.mpr c17
   subst c17
   have H1 : (some false) = some true := by rw [if_neg (show ¬ (false = true) by decide)] at H; (first | done | exact H)
   clear H
   have H := H1
   clear H1
   exact absurd H (by simp)

end Go.Proofs.Ytpoafgokngpglaa.PFnExactPutPair
