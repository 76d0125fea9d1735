-- Written for this claim by a program of this session's (wip/p2.sh).
import Derived.Test.YtpoafgokngpglaaPFnExactPutBindx0
import Derived.Test.YtpoafgokngpglaaQbShort
import Derived.Test.YtpoafgokngpglaaPFnExactPutBindx1
import Derived.Test.YtpoafgokngpglaaPFnExactPutBindx3
import Derived.Test.YtpoafgokngpglaaPFnExactPutBindx9
import Derived.Test.YtpoafgokngpglaaPFnExactPutBindx10
namespace Go.Proofs.Ytpoafgokngpglaa.PFnExactPutBind
open Go.RowKit Go.Proofs.YtpoafgokngpglaaW.PrintWords Go.Proofs.YtpoafgokngpglaaW.PrintLast Go.Proofs.YtpoafgokngpglaaW.PrintMore Go.Proofs.YtpoafgokngpglaaShort
attribute [local go_sem] max2_int min2_int max_two min_two max_three min_three max_four min_four   -- for this text's walks alone
set_option linter.unusedVariables false
set_option linter.unusedSimpArgs false

/-! ### laws_FnExactPutBind: function 5 -/
def laws_FnExactPutBind.f (k : Nat) (l0 : List (S55)) (a1_0 : Int) (a1_1 : Int) (a1_2 : Int) (a1_3 : Int) : Option (Bool) := (laws_szBindS.f l0 1048576).bind fun t292 => (if t292 < 0 then (some true) else ((laws_toBindS.f k l0).bind fun t293 => ((laws_toBind.f a1_0 a1_1 a1_2 a1_3).bind fun bt296 => ((spec_PutBind.f k t293 bt296.1 bt296.2.1 bt296.2.2.1 bt296.2.2.2).bind fun bt300 => ((laws_toBindS.f k l0).bind fun t305 => ((laws_toBind.f a1_0 a1_1 a1_2 a1_3).bind fun bt308 => ((impl_PutBind.f k t305 bt308.1 bt308.2.1 bt308.2.2.1 bt308.2.2.2).bind fun bt312 => ((laws_eqBindsResult.f k bt312.1 bt312.2 bt300.1 bt300.2).bind fun t317 => (if t317 = true then ((laws_toBindS.f k l0).bind fun t318 => ((laws_eqBindS.f k t305 t318).bind fun t321 => (if t321 = true then ((laws_markBindS.f k t305 1).bind fun bt322 => (if bt322.1 < 0 then (some false) else ((laws_eqBindsResult.f k bt312.1 bt312.2 bt300.1 bt300.2).bind fun t324 => (if t324 = true then ((laws_markBindsResult.f k bt312.1 bt312.2 1).bind fun bt325 => ((laws_heldBindsResult.f k bt312.1 bt325.2 1).bind fun t327 => (if t327 < 0 then (some false) else (if t327 = bt325.1 then ((laws_toBindS.f k l0).bind fun t328 => ((laws_toBind.f a1_0 a1_1 a1_2 a1_3).bind fun bt331 => ((impl_PutBind.f k t328 bt331.1 bt331.2.1 bt331.2.2.1 bt331.2.2.2).bind fun bt335 => ((laws_eqBindsResult.f k bt335.1 bt335.2 bt300.1 bt300.2).bind fun t340 => (if t340 = true then ((laws_heldBindsResult.f k bt312.1 bt325.2 1).bind fun t341 => (if t341 < 0 then (some false) else (if t341 = bt325.1 then (some true) else (some false)))) else (some false)))))) else (some false))))) else (some false))))) else (some false)))) else (some false))))))))))
theorem laws_FnExactPutBind.mono : ∀ a0 a1 a2 a3 a4 k, LeO (laws_FnExactPutBind.f k a0 a1 a2 a3 a4) (laws_FnExactPutBind.f (k + 1) a0 a1 a2 a3 a4) := by
 intro a0 a1 a2 a3 a4 k
 unfold laws_FnExactPutBind.f
 repeat' first
   | (with_reducible exact impl_PutBind.mono _ _ _ _ _ _)
   | (with_reducible exact laws_eqBindS.mono _ _ _)
   | (with_reducible exact laws_eqBindsResult.mono _ _ _ _ _)
   | (with_reducible exact laws_heldBindsResult.mono _ _ _ _)
   | (with_reducible exact laws_markBindS.mono _ _ _)
   | (with_reducible exact laws_markBindsResult.mono _ _ _ _)
   | (with_reducible exact laws_toBindS.mono _ _)
   | (with_reducible exact spec_PutBind.mono _ _ _ _ _ _)
   | (with_reducible exact LeO.refl _)
   | (with_reducible exact LeO.none _)
   | (with_reducible refine LeO.ite ?_ ?_)
   | (with_reducible refine LeO.bind ?_ (fun _ => ?_))
   | exact impl_PutBind.mono _ _ _ _ _ _
   | exact laws_eqBindS.mono _ _ _
   | exact laws_eqBindsResult.mono _ _ _ _ _
   | exact laws_heldBindsResult.mono _ _ _ _
   | exact laws_markBindS.mono _ _ _
   | exact laws_markBindsResult.mono _ _ _ _
   | exact laws_toBindS.mono _ _
   | exact spec_PutBind.mono _ _ _ _ _ _
   | exact LeO.none _
   | refine LeO.ite ?_ ?_
   | refine LeO.bind ?_ (fun _ => ?_)
set_option maxHeartbeats 8000000 in
set_option maxRecDepth 100000 in
theorem laws_FnExactPutBind.calls (k : Nat) (A0 : Option Addr) (c0 : Nat) (l0 : List (S55)) (a1_0 : Int) (a1_1 : Int) (a1_2 : Int) (a1_3 : Int) (w : World) (hr0 : Kd.C k55 w A0 l0.length l0) (hc0 : l0.length ≤ c0) (h : laws_FnExactPutBind.f k l0 a1_0 a1_1 a1_2 a1_3 = some true) :
  Calls Try.prog 5 #[.slice A0 l0.length c0, .agg #[.int .i64 a1_0, .int .i64 a1_1, .int .i64 a1_2, .int .i64 a1_3]] w fun e w' => e = .returned (.bool true) ∧ Below w.heap.size w w' := by
 have hu55 := Try.underlying55
 have hu59 := Try.underlying59
 have HR0 := Aside0.mk hr0
 have HC0 := Aside0.mk hc0
 clear hr0 hc0
 have HB := Aside0.mk (Below.refl w.heap.size w)
 have H : ((laws_szBindS.f l0 1048576).bind fun t292 => (if t292 < 0 then (some true) else ((laws_toBindS.f k l0).bind fun t293 => ((laws_toBind.f a1_0 a1_1 a1_2 a1_3).bind fun bt296 => ((spec_PutBind.f k t293 bt296.1 bt296.2.1 bt296.2.2.1 bt296.2.2.2).bind fun bt300 => ((laws_toBindS.f k l0).bind fun t305 => ((laws_toBind.f a1_0 a1_1 a1_2 a1_3).bind fun bt308 => ((impl_PutBind.f k t305 bt308.1 bt308.2.1 bt308.2.2.1 bt308.2.2.2).bind fun bt312 => ((laws_eqBindsResult.f k bt312.1 bt312.2 bt300.1 bt300.2).bind fun t317 => (if t317 = true then ((laws_toBindS.f k l0).bind fun t318 => ((laws_eqBindS.f k t305 t318).bind fun t321 => (if t321 = true then ((laws_markBindS.f k t305 1).bind fun bt322 => (if bt322.1 < 0 then (some false) else ((laws_eqBindsResult.f k bt312.1 bt312.2 bt300.1 bt300.2).bind fun t324 => (if t324 = true then ((laws_markBindsResult.f k bt312.1 bt312.2 1).bind fun bt325 => ((laws_heldBindsResult.f k bt312.1 bt325.2 1).bind fun t327 => (if t327 < 0 then (some false) else (if t327 = bt325.1 then ((laws_toBindS.f k l0).bind fun t328 => ((laws_toBind.f a1_0 a1_1 a1_2 a1_3).bind fun bt331 => ((impl_PutBind.f k t328 bt331.1 bt331.2.1 bt331.2.2.1 bt331.2.2.2).bind fun bt335 => ((laws_eqBindsResult.f k bt335.1 bt335.2 bt300.1 bt300.2).bind fun t340 => (if t340 = true then ((laws_heldBindsResult.f k bt312.1 bt325.2 1).bind fun t341 => (if t341 < 0 then (some false) else (if t341 = bt325.1 then (some true) else (some false)))) else (some false)))))) else (some false))))) else (some false))))) else (some false)))) else (some false))))))))))) = some true := h
 clear h
 replace H := Option.bind_eq_some_iff.mp H
 obtain ⟨t292, A30, H⟩ := H
 replace H : (if t292 < 0 then (some true) else ((laws_toBindS.f k l0).bind fun t293 => ((laws_toBind.f a1_0 a1_1 a1_2 a1_3).bind fun bt296 => ((spec_PutBind.f k t293 bt296.1 bt296.2.1 bt296.2.2.1 bt296.2.2.2).bind fun bt300 => ((laws_toBindS.f k l0).bind fun t305 => ((laws_toBind.f a1_0 a1_1 a1_2 a1_3).bind fun bt308 => ((impl_PutBind.f k t305 bt308.1 bt308.2.1 bt308.2.2.1 bt308.2.2.2).bind fun bt312 => ((laws_eqBindsResult.f k bt312.1 bt312.2 bt300.1 bt300.2).bind fun t317 => (if t317 = true then ((laws_toBindS.f k l0).bind fun t318 => ((laws_eqBindS.f k t305 t318).bind fun t321 => (if t321 = true then ((laws_markBindS.f k t305 1).bind fun bt322 => (if bt322.1 < 0 then (some false) else ((laws_eqBindsResult.f k bt312.1 bt312.2 bt300.1 bt300.2).bind fun t324 => (if t324 = true then ((laws_markBindsResult.f k bt312.1 bt312.2 1).bind fun bt325 => ((laws_heldBindsResult.f k bt312.1 bt325.2 1).bind fun t327 => (if t327 < 0 then (some false) else (if t327 = bt325.1 then ((laws_toBindS.f k l0).bind fun t328 => ((laws_toBind.f a1_0 a1_1 a1_2 a1_3).bind fun bt331 => ((impl_PutBind.f k t328 bt331.1 bt331.2.1 bt331.2.2.1 bt331.2.2.2).bind fun bt335 => ((laws_eqBindsResult.f k bt335.1 bt335.2 bt300.1 bt300.2).bind fun t340 => (if t340 = true then ((laws_heldBindsResult.f k bt312.1 bt325.2 1).bind fun t341 => (if t341 < 0 then (some false) else (if t341 = bt325.1 then (some true) else (some false)))) else (some false)))))) else (some false))))) else (some false))))) else (some false)))) else (some false)))))))))) = some true := H
 have A3 := Aside0.mk A30
 clear A30
 by_cases c4 : t292 < 0
 ·rw [if_pos c4] at H
  have c4b0 : decide (t292 < 0) = true := decide_eq_true c4
  clear c4
  go_enter Try.func5, Try.ntmps5
  go_wp2_with (first | ((with_reducible refine gate_dst (N := 3) rfl ?_); refine box_event ?hg (N := 3) ?hd (cs := #[.int .i64 a1_0, .int .i64 a1_1, .int .i64 a1_2, .int .i64 a1_3]) (t := 55) ?hr ?_; (case hd => rfl); (case hg => rfl); (case hr => first | (go_simp; done) | (go_simp; rfl)); intro gb291 hg w5 hbox hb; have n0_ := Aside0.mk (below_step (by repeat (first | (with_reducible first | exact HB.out | apply below_alloc | apply pw_below_drewN | apply below_drew1) | exact HB.out)) hb); have n1_ := Aside0.mk (hbox); have n2_ := Aside0.mk ((by rw [hg]; exact (below_size (by repeat (first | (with_reducible first | exact HB.out | apply below_alloc | apply pw_below_drewN | apply below_drew1) | exact HB.out))) : w.heap.size ≤ gb291)); have n3_ := Aside0.mk ((by rw [hg]; exact (below_size (by repeat (first | (with_reducible first | exact HB.out | apply below_alloc | apply pw_below_drewN | apply below_drew1) | exact HB.out))) : w.heap.size ≤ gb291)); clear HB; have HB := n0_; have BK291 := n1_; have GW291 := n2_; have GE291 := n3_; clear n0_ n1_ n2_ n3_; clear hb hbox hg) | ((with_reducible refine gate_callee (f := 23) rfl ?_); refine goesL_ (some 15) rfl rfl Try.func23 (by kernel_rfl) rfl #[.slice A0 l0.length c0, .int .i64 1048576] rfl (by (try simp only [List.map_toArray, List.map_cons, List.map_nil]); first | done | rfl | (simp only [List.length_drop, List.length_take]; rfl)) ?_; (with_reducible refine (laws_szBindS.calls _ _ l0 1048576 t292 _ ?side1 ?side2 A3.out).mono ?_); (case side1 => repeat (first | exact (Kd.C_below HR0.out HB.out) | (with_reducible refine Kd.C_alloc ?_ _) | (with_reducible refine Kd.C_drewN ?_ _) | (with_reducible refine Kd.C_drew ?_))); (case side2 => exact HC0.out); rintro e w' ⟨rfl, ⟨nd, rfl⟩⟩; refine ⟨_, rfl, ?_⟩))
  go_ret
  exact ⟨by first | rfl | (simp [errW_none, errW_some] <;> rfl) | (simp [*, errW_none, errW_some] <;> rfl), by repeat (first | (with_reducible first | exact HB.out | apply below_alloc | apply pw_below_drewN | apply below_drew1 | refine below_set ?_ GE291.out) | exact HB.out)⟩
 ·rw [if_neg c4] at H
  have c4b0 : decide (t292 < 0) = false := decide_eq_false c4
  clear c4
  replace H := Option.bind_eq_some_iff.mp H
  obtain ⟨t293, A60, H⟩ := H
  replace H : ((laws_toBind.f a1_0 a1_1 a1_2 a1_3).bind fun bt296 => ((spec_PutBind.f k t293 bt296.1 bt296.2.1 bt296.2.2.1 bt296.2.2.2).bind fun bt300 => ((laws_toBindS.f k l0).bind fun t305 => ((laws_toBind.f a1_0 a1_1 a1_2 a1_3).bind fun bt308 => ((impl_PutBind.f k t305 bt308.1 bt308.2.1 bt308.2.2.1 bt308.2.2.2).bind fun bt312 => ((laws_eqBindsResult.f k bt312.1 bt312.2 bt300.1 bt300.2).bind fun t317 => (if t317 = true then ((laws_toBindS.f k l0).bind fun t318 => ((laws_eqBindS.f k t305 t318).bind fun t321 => (if t321 = true then ((laws_markBindS.f k t305 1).bind fun bt322 => (if bt322.1 < 0 then (some false) else ((laws_eqBindsResult.f k bt312.1 bt312.2 bt300.1 bt300.2).bind fun t324 => (if t324 = true then ((laws_markBindsResult.f k bt312.1 bt312.2 1).bind fun bt325 => ((laws_heldBindsResult.f k bt312.1 bt325.2 1).bind fun t327 => (if t327 < 0 then (some false) else (if t327 = bt325.1 then ((laws_toBindS.f k l0).bind fun t328 => ((laws_toBind.f a1_0 a1_1 a1_2 a1_3).bind fun bt331 => ((impl_PutBind.f k t328 bt331.1 bt331.2.1 bt331.2.2.1 bt331.2.2.2).bind fun bt335 => ((laws_eqBindsResult.f k bt335.1 bt335.2 bt300.1 bt300.2).bind fun t340 => (if t340 = true then ((laws_heldBindsResult.f k bt312.1 bt325.2 1).bind fun t341 => (if t341 < 0 then (some false) else (if t341 = bt325.1 then (some true) else (some false)))) else (some false)))))) else (some false))))) else (some false))))) else (some false)))) else (some false)))))))) = some true := H
  have A6 := Aside0.mk A60
  clear A60
  replace H := Option.bind_eq_some_iff.mp H
  obtain ⟨⟨t296, t297, t298, t299⟩, A70, H⟩ := H
  replace H : ((spec_PutBind.f k t293 t296 t297 t298 t299).bind fun bt300 => ((laws_toBindS.f k l0).bind fun t305 => ((laws_toBind.f a1_0 a1_1 a1_2 a1_3).bind fun bt308 => ((impl_PutBind.f k t305 bt308.1 bt308.2.1 bt308.2.2.1 bt308.2.2.2).bind fun bt312 => ((laws_eqBindsResult.f k bt312.1 bt312.2 bt300.1 bt300.2).bind fun t317 => (if t317 = true then ((laws_toBindS.f k l0).bind fun t318 => ((laws_eqBindS.f k t305 t318).bind fun t321 => (if t321 = true then ((laws_markBindS.f k t305 1).bind fun bt322 => (if bt322.1 < 0 then (some false) else ((laws_eqBindsResult.f k bt312.1 bt312.2 bt300.1 bt300.2).bind fun t324 => (if t324 = true then ((laws_markBindsResult.f k bt312.1 bt312.2 1).bind fun bt325 => ((laws_heldBindsResult.f k bt312.1 bt325.2 1).bind fun t327 => (if t327 < 0 then (some false) else (if t327 = bt325.1 then ((laws_toBindS.f k l0).bind fun t328 => ((laws_toBind.f a1_0 a1_1 a1_2 a1_3).bind fun bt331 => ((impl_PutBind.f k t328 bt331.1 bt331.2.1 bt331.2.2.1 bt331.2.2.2).bind fun bt335 => ((laws_eqBindsResult.f k bt335.1 bt335.2 bt300.1 bt300.2).bind fun t340 => (if t340 = true then ((laws_heldBindsResult.f k bt312.1 bt325.2 1).bind fun t341 => (if t341 < 0 then (some false) else (if t341 = bt325.1 then (some true) else (some false)))) else (some false)))))) else (some false))))) else (some false))))) else (some false)))) else (some false))))))) = some true := H
  have A7 := Aside0.mk A70
  clear A70
  replace H := Option.bind_eq_some_iff.mp H
  obtain ⟨⟨t300, t301⟩, A80, H⟩ := H
  replace H : ((laws_toBindS.f k l0).bind fun t305 => ((laws_toBind.f a1_0 a1_1 a1_2 a1_3).bind fun bt308 => ((impl_PutBind.f k t305 bt308.1 bt308.2.1 bt308.2.2.1 bt308.2.2.2).bind fun bt312 => ((laws_eqBindsResult.f k bt312.1 bt312.2 t300 t301).bind fun t317 => (if t317 = true then ((laws_toBindS.f k l0).bind fun t318 => ((laws_eqBindS.f k t305 t318).bind fun t321 => (if t321 = true then ((laws_markBindS.f k t305 1).bind fun bt322 => (if bt322.1 < 0 then (some false) else ((laws_eqBindsResult.f k bt312.1 bt312.2 t300 t301).bind fun t324 => (if t324 = true then ((laws_markBindsResult.f k bt312.1 bt312.2 1).bind fun bt325 => ((laws_heldBindsResult.f k bt312.1 bt325.2 1).bind fun t327 => (if t327 < 0 then (some false) else (if t327 = bt325.1 then ((laws_toBindS.f k l0).bind fun t328 => ((laws_toBind.f a1_0 a1_1 a1_2 a1_3).bind fun bt331 => ((impl_PutBind.f k t328 bt331.1 bt331.2.1 bt331.2.2.1 bt331.2.2.2).bind fun bt335 => ((laws_eqBindsResult.f k bt335.1 bt335.2 t300 t301).bind fun t340 => (if t340 = true then ((laws_heldBindsResult.f k bt312.1 bt325.2 1).bind fun t341 => (if t341 < 0 then (some false) else (if t341 = bt325.1 then (some true) else (some false)))) else (some false)))))) else (some false))))) else (some false))))) else (some false)))) else (some false)))))) = some true := H
  have A8 := Aside0.mk A80
  clear A80
  replace H := Option.bind_eq_some_iff.mp H
  obtain ⟨t305, A90, H⟩ := H
  replace H : ((laws_toBind.f a1_0 a1_1 a1_2 a1_3).bind fun bt308 => ((impl_PutBind.f k t305 bt308.1 bt308.2.1 bt308.2.2.1 bt308.2.2.2).bind fun bt312 => ((laws_eqBindsResult.f k bt312.1 bt312.2 t300 t301).bind fun t317 => (if t317 = true then ((laws_toBindS.f k l0).bind fun t318 => ((laws_eqBindS.f k t305 t318).bind fun t321 => (if t321 = true then ((laws_markBindS.f k t305 1).bind fun bt322 => (if bt322.1 < 0 then (some false) else ((laws_eqBindsResult.f k bt312.1 bt312.2 t300 t301).bind fun t324 => (if t324 = true then ((laws_markBindsResult.f k bt312.1 bt312.2 1).bind fun bt325 => ((laws_heldBindsResult.f k bt312.1 bt325.2 1).bind fun t327 => (if t327 < 0 then (some false) else (if t327 = bt325.1 then ((laws_toBindS.f k l0).bind fun t328 => ((laws_toBind.f a1_0 a1_1 a1_2 a1_3).bind fun bt331 => ((impl_PutBind.f k t328 bt331.1 bt331.2.1 bt331.2.2.1 bt331.2.2.2).bind fun bt335 => ((laws_eqBindsResult.f k bt335.1 bt335.2 t300 t301).bind fun t340 => (if t340 = true then ((laws_heldBindsResult.f k bt312.1 bt325.2 1).bind fun t341 => (if t341 < 0 then (some false) else (if t341 = bt325.1 then (some true) else (some false)))) else (some false)))))) else (some false))))) else (some false))))) else (some false)))) else (some false))))) = some true := H
  have A9 := Aside0.mk A90
  clear A90
  replace H := Option.bind_eq_some_iff.mp H
  obtain ⟨⟨t308, t309, t310, t311⟩, A100, H⟩ := H
  replace H : ((impl_PutBind.f k t305 t308 t309 t310 t311).bind fun bt312 => ((laws_eqBindsResult.f k bt312.1 bt312.2 t300 t301).bind fun t317 => (if t317 = true then ((laws_toBindS.f k l0).bind fun t318 => ((laws_eqBindS.f k t305 t318).bind fun t321 => (if t321 = true then ((laws_markBindS.f k t305 1).bind fun bt322 => (if bt322.1 < 0 then (some false) else ((laws_eqBindsResult.f k bt312.1 bt312.2 t300 t301).bind fun t324 => (if t324 = true then ((laws_markBindsResult.f k bt312.1 bt312.2 1).bind fun bt325 => ((laws_heldBindsResult.f k bt312.1 bt325.2 1).bind fun t327 => (if t327 < 0 then (some false) else (if t327 = bt325.1 then ((laws_toBindS.f k l0).bind fun t328 => ((laws_toBind.f a1_0 a1_1 a1_2 a1_3).bind fun bt331 => ((impl_PutBind.f k t328 bt331.1 bt331.2.1 bt331.2.2.1 bt331.2.2.2).bind fun bt335 => ((laws_eqBindsResult.f k bt335.1 bt335.2 t300 t301).bind fun t340 => (if t340 = true then ((laws_heldBindsResult.f k bt312.1 bt325.2 1).bind fun t341 => (if t341 < 0 then (some false) else (if t341 = bt325.1 then (some true) else (some false)))) else (some false)))))) else (some false))))) else (some false))))) else (some false)))) else (some false)))) = some true := H
  have A10 := Aside0.mk A100
  clear A100
  replace H := Option.bind_eq_some_iff.mp H
  obtain ⟨⟨t312, t313⟩, A110, H⟩ := H
  replace H : ((laws_eqBindsResult.f k t312 t313 t300 t301).bind fun t317 => (if t317 = true then ((laws_toBindS.f k l0).bind fun t318 => ((laws_eqBindS.f k t305 t318).bind fun t321 => (if t321 = true then ((laws_markBindS.f k t305 1).bind fun bt322 => (if bt322.1 < 0 then (some false) else ((laws_eqBindsResult.f k t312 t313 t300 t301).bind fun t324 => (if t324 = true then ((laws_markBindsResult.f k t312 t313 1).bind fun bt325 => ((laws_heldBindsResult.f k t312 bt325.2 1).bind fun t327 => (if t327 < 0 then (some false) else (if t327 = bt325.1 then ((laws_toBindS.f k l0).bind fun t328 => ((laws_toBind.f a1_0 a1_1 a1_2 a1_3).bind fun bt331 => ((impl_PutBind.f k t328 bt331.1 bt331.2.1 bt331.2.2.1 bt331.2.2.2).bind fun bt335 => ((laws_eqBindsResult.f k bt335.1 bt335.2 t300 t301).bind fun t340 => (if t340 = true then ((laws_heldBindsResult.f k t312 bt325.2 1).bind fun t341 => (if t341 < 0 then (some false) else (if t341 = bt325.1 then (some true) else (some false)))) else (some false)))))) else (some false))))) else (some false))))) else (some false)))) else (some false))) = some true := H
  have A11 := Aside0.mk A110
  clear A110
  replace H := Option.bind_eq_some_iff.mp H
  obtain ⟨t317, A120, H⟩ := H
  replace H : (if t317 = true then ((laws_toBindS.f k l0).bind fun t318 => ((laws_eqBindS.f k t305 t318).bind fun t321 => (if t321 = true then ((laws_markBindS.f k t305 1).bind fun bt322 => (if bt322.1 < 0 then (some false) else ((laws_eqBindsResult.f k t312 t313 t300 t301).bind fun t324 => (if t324 = true then ((laws_markBindsResult.f k t312 t313 1).bind fun bt325 => ((laws_heldBindsResult.f k t312 bt325.2 1).bind fun t327 => (if t327 < 0 then (some false) else (if t327 = bt325.1 then ((laws_toBindS.f k l0).bind fun t328 => ((laws_toBind.f a1_0 a1_1 a1_2 a1_3).bind fun bt331 => ((impl_PutBind.f k t328 bt331.1 bt331.2.1 bt331.2.2.1 bt331.2.2.2).bind fun bt335 => ((laws_eqBindsResult.f k bt335.1 bt335.2 t300 t301).bind fun t340 => (if t340 = true then ((laws_heldBindsResult.f k t312 bt325.2 1).bind fun t341 => (if t341 < 0 then (some false) else (if t341 = bt325.1 then (some true) else (some false)))) else (some false)))))) else (some false))))) else (some false))))) else (some false)))) else (some false)) = some true := H
  have A12 := Aside0.mk A120
  clear A120
  by_cases c13 : t317 = true
  ·subst c13
   have H1 : ((laws_toBindS.f k l0).bind fun t318 => ((laws_eqBindS.f k t305 t318).bind fun t321 => (if t321 = true then ((laws_markBindS.f k t305 1).bind fun bt322 => (if bt322.1 < 0 then (some false) else ((laws_eqBindsResult.f k t312 t313 t300 t301).bind fun t324 => (if t324 = true then ((laws_markBindsResult.f k t312 t313 1).bind fun bt325 => ((laws_heldBindsResult.f k t312 bt325.2 1).bind fun t327 => (if t327 < 0 then (some false) else (if t327 = bt325.1 then ((laws_toBindS.f k l0).bind fun t328 => ((laws_toBind.f a1_0 a1_1 a1_2 a1_3).bind fun bt331 => ((impl_PutBind.f k t328 bt331.1 bt331.2.1 bt331.2.2.1 bt331.2.2.2).bind fun bt335 => ((laws_eqBindsResult.f k bt335.1 bt335.2 t300 t301).bind fun t340 => (if t340 = true then ((laws_heldBindsResult.f k t312 bt325.2 1).bind fun t341 => (if t341 < 0 then (some false) else (if t341 = bt325.1 then (some true) else (some false)))) else (some false)))))) else (some false))))) else (some false))))) else (some false)))) = some true := by rw [if_pos rfl] at H; (first | done | exact H)
   clear H
   have H := H1
   clear H1
   replace H := Option.bind_eq_some_iff.mp H
   obtain ⟨t318, A140, H⟩ := H
   replace H : ((laws_eqBindS.f k t305 t318).bind fun t321 => (if t321 = true then ((laws_markBindS.f k t305 1).bind fun bt322 => (if bt322.1 < 0 then (some false) else ((laws_eqBindsResult.f k t312 t313 t300 t301).bind fun t324 => (if t324 = true then ((laws_markBindsResult.f k t312 t313 1).bind fun bt325 => ((laws_heldBindsResult.f k t312 bt325.2 1).bind fun t327 => (if t327 < 0 then (some false) else (if t327 = bt325.1 then ((laws_toBindS.f k l0).bind fun t328 => ((laws_toBind.f a1_0 a1_1 a1_2 a1_3).bind fun bt331 => ((impl_PutBind.f k t328 bt331.1 bt331.2.1 bt331.2.2.1 bt331.2.2.2).bind fun bt335 => ((laws_eqBindsResult.f k bt335.1 bt335.2 t300 t301).bind fun t340 => (if t340 = true then ((laws_heldBindsResult.f k t312 bt325.2 1).bind fun t341 => (if t341 < 0 then (some false) else (if t341 = bt325.1 then (some true) else (some false)))) else (some false)))))) else (some false))))) else (some false))))) else (some false))) = some true := H
   have A14 := Aside0.mk A140
   clear A140
   replace H := Option.bind_eq_some_iff.mp H
   obtain ⟨t321, A150, H⟩ := H
   replace H : (if t321 = true then ((laws_markBindS.f k t305 1).bind fun bt322 => (if bt322.1 < 0 then (some false) else ((laws_eqBindsResult.f k t312 t313 t300 t301).bind fun t324 => (if t324 = true then ((laws_markBindsResult.f k t312 t313 1).bind fun bt325 => ((laws_heldBindsResult.f k t312 bt325.2 1).bind fun t327 => (if t327 < 0 then (some false) else (if t327 = bt325.1 then ((laws_toBindS.f k l0).bind fun t328 => ((laws_toBind.f a1_0 a1_1 a1_2 a1_3).bind fun bt331 => ((impl_PutBind.f k t328 bt331.1 bt331.2.1 bt331.2.2.1 bt331.2.2.2).bind fun bt335 => ((laws_eqBindsResult.f k bt335.1 bt335.2 t300 t301).bind fun t340 => (if t340 = true then ((laws_heldBindsResult.f k t312 bt325.2 1).bind fun t341 => (if t341 < 0 then (some false) else (if t341 = bt325.1 then (some true) else (some false)))) else (some false)))))) else (some false))))) else (some false))))) else (some false)) = some true := H
   have A15 := Aside0.mk A150
   clear A150
   by_cases c16 : t321 = true
   ·subst c16
    have H1 : ((laws_markBindS.f k t305 1).bind fun bt322 => (if bt322.1 < 0 then (some false) else ((laws_eqBindsResult.f k t312 t313 t300 t301).bind fun t324 => (if t324 = true then ((laws_markBindsResult.f k t312 t313 1).bind fun bt325 => ((laws_heldBindsResult.f k t312 bt325.2 1).bind fun t327 => (if t327 < 0 then (some false) else (if t327 = bt325.1 then ((laws_toBindS.f k l0).bind fun t328 => ((laws_toBind.f a1_0 a1_1 a1_2 a1_3).bind fun bt331 => ((impl_PutBind.f k t328 bt331.1 bt331.2.1 bt331.2.2.1 bt331.2.2.2).bind fun bt335 => ((laws_eqBindsResult.f k bt335.1 bt335.2 t300 t301).bind fun t340 => (if t340 = true then ((laws_heldBindsResult.f k t312 bt325.2 1).bind fun t341 => (if t341 < 0 then (some false) else (if t341 = bt325.1 then (some true) else (some false)))) else (some false)))))) else (some false))))) else (some false))))) = some true := by rw [if_pos rfl] at H; (first | done | exact H)
    clear H
    have H := H1
    clear H1
    replace H := Option.bind_eq_some_iff.mp H
    obtain ⟨⟨t322, t323⟩, A170, H⟩ := H
    replace H : (if t322 < 0 then (some false) else ((laws_eqBindsResult.f k t312 t313 t300 t301).bind fun t324 => (if t324 = true then ((laws_markBindsResult.f k t312 t313 1).bind fun bt325 => ((laws_heldBindsResult.f k t312 bt325.2 1).bind fun t327 => (if t327 < 0 then (some false) else (if t327 = bt325.1 then ((laws_toBindS.f k l0).bind fun t328 => ((laws_toBind.f a1_0 a1_1 a1_2 a1_3).bind fun bt331 => ((impl_PutBind.f k t328 bt331.1 bt331.2.1 bt331.2.2.1 bt331.2.2.2).bind fun bt335 => ((laws_eqBindsResult.f k bt335.1 bt335.2 t300 t301).bind fun t340 => (if t340 = true then ((laws_heldBindsResult.f k t312 bt325.2 1).bind fun t341 => (if t341 < 0 then (some false) else (if t341 = bt325.1 then (some true) else (some false)))) else (some false)))))) else (some false))))) else (some false)))) = some true := H
    have A17 := Aside0.mk A170
    clear A170
    by_cases c18 : t322 < 0
    ·rw [if_pos c18] at H
     have c18b0 : decide (t322 < 0) = true := decide_eq_true c18
     clear c18
     exact absurd H (by simp)
    ·rw [if_neg c18] at H
     have c18b0 : decide (t322 < 0) = false := decide_eq_false c18
     clear c18
     replace H := Option.bind_eq_some_iff.mp H
     obtain ⟨t324, A190, H⟩ := H
     replace H : (if t324 = true then ((laws_markBindsResult.f k t312 t313 1).bind fun bt325 => ((laws_heldBindsResult.f k t312 bt325.2 1).bind fun t327 => (if t327 < 0 then (some false) else (if t327 = bt325.1 then ((laws_toBindS.f k l0).bind fun t328 => ((laws_toBind.f a1_0 a1_1 a1_2 a1_3).bind fun bt331 => ((impl_PutBind.f k t328 bt331.1 bt331.2.1 bt331.2.2.1 bt331.2.2.2).bind fun bt335 => ((laws_eqBindsResult.f k bt335.1 bt335.2 t300 t301).bind fun t340 => (if t340 = true then ((laws_heldBindsResult.f k t312 bt325.2 1).bind fun t341 => (if t341 < 0 then (some false) else (if t341 = bt325.1 then (some true) else (some false)))) else (some false)))))) else (some false))))) else (some false)) = some true := H
     have A19 := Aside0.mk A190
     clear A190
     by_cases c20 : t324 = true
     ·subst c20
      have H1 : ((laws_markBindsResult.f k t312 t313 1).bind fun bt325 => ((laws_heldBindsResult.f k t312 bt325.2 1).bind fun t327 => (if t327 < 0 then (some false) else (if t327 = bt325.1 then ((laws_toBindS.f k l0).bind fun t328 => ((laws_toBind.f a1_0 a1_1 a1_2 a1_3).bind fun bt331 => ((impl_PutBind.f k t328 bt331.1 bt331.2.1 bt331.2.2.1 bt331.2.2.2).bind fun bt335 => ((laws_eqBindsResult.f k bt335.1 bt335.2 t300 t301).bind fun t340 => (if t340 = true then ((laws_heldBindsResult.f k t312 bt325.2 1).bind fun t341 => (if t341 < 0 then (some false) else (if t341 = bt325.1 then (some true) else (some false)))) else (some false)))))) else (some false))))) = some true := by rw [if_pos rfl] at H; (first | done | exact H)
      clear H
      have H := H1
      clear H1
      replace H := Option.bind_eq_some_iff.mp H
      obtain ⟨⟨t325, t326⟩, A210, H⟩ := H
      replace H : ((laws_heldBindsResult.f k t312 t326 1).bind fun t327 => (if t327 < 0 then (some false) else (if t327 = t325 then ((laws_toBindS.f k l0).bind fun t328 => ((laws_toBind.f a1_0 a1_1 a1_2 a1_3).bind fun bt331 => ((impl_PutBind.f k t328 bt331.1 bt331.2.1 bt331.2.2.1 bt331.2.2.2).bind fun bt335 => ((laws_eqBindsResult.f k bt335.1 bt335.2 t300 t301).bind fun t340 => (if t340 = true then ((laws_heldBindsResult.f k t312 t326 1).bind fun t341 => (if t341 < 0 then (some false) else (if t341 = t325 then (some true) else (some false)))) else (some false)))))) else (some false)))) = some true := H
      have A21 := Aside0.mk A210
      clear A210
      replace H := Option.bind_eq_some_iff.mp H
      obtain ⟨t327, A220, H⟩ := H
      replace H : (if t327 < 0 then (some false) else (if t327 = t325 then ((laws_toBindS.f k l0).bind fun t328 => ((laws_toBind.f a1_0 a1_1 a1_2 a1_3).bind fun bt331 => ((impl_PutBind.f k t328 bt331.1 bt331.2.1 bt331.2.2.1 bt331.2.2.2).bind fun bt335 => ((laws_eqBindsResult.f k bt335.1 bt335.2 t300 t301).bind fun t340 => (if t340 = true then ((laws_heldBindsResult.f k t312 t326 1).bind fun t341 => (if t341 < 0 then (some false) else (if t341 = t325 then (some true) else (some false)))) else (some false)))))) else (some false))) = some true := H
      have A22 := Aside0.mk A220
      clear A220
      by_cases c23 : t327 < 0
      ·rw [if_pos c23] at H
       have c23b0 : decide (t327 < 0) = true := decide_eq_true c23
       clear c23
       exact absurd H (by simp)
      ·rw [if_neg c23] at H
       have c23b0 : decide (t327 < 0) = false := decide_eq_false c23
       clear c23
       by_cases c24 : t327 = t325
       ·rw [if_pos c24] at H
        have c24b0 : (t327 == t325) = true := beq_iff_eq.mpr c24
        have c24b1 : (t327 != t325) = false := bne_eq_false_iff_eq.mpr c24
        clear c24
        replace H := Option.bind_eq_some_iff.mp H
        obtain ⟨t328, A250, H⟩ := H
        replace H : ((laws_toBind.f a1_0 a1_1 a1_2 a1_3).bind fun bt331 => ((impl_PutBind.f k t328 bt331.1 bt331.2.1 bt331.2.2.1 bt331.2.2.2).bind fun bt335 => ((laws_eqBindsResult.f k bt335.1 bt335.2 t300 t301).bind fun t340 => (if t340 = true then ((laws_heldBindsResult.f k t312 t326 1).bind fun t341 => (if t341 < 0 then (some false) else (if t341 = t325 then (some true) else (some false)))) else (some false))))) = some true := H
        have A25 := Aside0.mk A250
        clear A250
        replace H := Option.bind_eq_some_iff.mp H
        obtain ⟨⟨t331, t332, t333, t334⟩, A260, H⟩ := H
        replace H : ((impl_PutBind.f k t328 t331 t332 t333 t334).bind fun bt335 => ((laws_eqBindsResult.f k bt335.1 bt335.2 t300 t301).bind fun t340 => (if t340 = true then ((laws_heldBindsResult.f k t312 t326 1).bind fun t341 => (if t341 < 0 then (some false) else (if t341 = t325 then (some true) else (some false)))) else (some false)))) = some true := H
        have A26 := Aside0.mk A260
        clear A260
        replace H := Option.bind_eq_some_iff.mp H
        obtain ⟨⟨t335, t336⟩, A270, H⟩ := H
        replace H : ((laws_eqBindsResult.f k t335 t336 t300 t301).bind fun t340 => (if t340 = true then ((laws_heldBindsResult.f k t312 t326 1).bind fun t341 => (if t341 < 0 then (some false) else (if t341 = t325 then (some true) else (some false)))) else (some false))) = some true := H
        have A27 := Aside0.mk A270
        clear A270
        replace H := Option.bind_eq_some_iff.mp H
        obtain ⟨t340, A280, H⟩ := H
        replace H : (if t340 = true then ((laws_heldBindsResult.f k t312 t326 1).bind fun t341 => (if t341 < 0 then (some false) else (if t341 = t325 then (some true) else (some false)))) else (some false)) = some true := H
        have A28 := Aside0.mk A280
        clear A280
        by_cases c29 : t340 = true
        ·subst c29
         have H1 : ((laws_heldBindsResult.f k t312 t326 1).bind fun t341 => (if t341 < 0 then (some false) else (if t341 = t325 then (some true) else (some false)))) = some true := by rw [if_pos rfl] at H; (first | done | exact H)
         clear H
         have H := H1
         clear H1
         replace H := Option.bind_eq_some_iff.mp H
         obtain ⟨t341, A300, H⟩ := H
         replace H : (if t341 < 0 then (some false) else (if t341 = t325 then (some true) else (some false))) = some true := H
         have A30 := Aside0.mk A300
         clear A300
         by_cases c31 : t341 < 0
         ·rw [if_pos c31] at H
          have c31b0 : decide (t341 < 0) = true := decide_eq_true c31
          clear c31
          exact absurd H (by simp)
         ·rw [if_neg c31] at H
          have c31b0 : decide (t341 < 0) = false := decide_eq_false c31
          clear c31
          by_cases c32 : t341 = t325
          ·rw [if_pos c32] at H
           have c32b0 : (t341 == t325) = true := beq_iff_eq.mpr c32
           have c32b1 : (t341 != t325) = false := bne_eq_false_iff_eq.mpr c32
           clear c32
           go_enter Try.func5, Try.ntmps5
           try go_wp2_with (first | ((with_reducible refine gate_dst (N := 3) rfl ?_); refine box_event ?hg (N := 3) ?hd (cs := #[.int .i64 a1_0, .int .i64 a1_1, .int .i64 a1_2, .int .i64 a1_3]) (t := 55) ?hr ?_; (case hd => rfl); (case hg => rfl); (case hr => first | (go_simp; done) | (go_simp; rfl)); intro gb291 hg w33 hbox hb; have n0_ := Aside0.mk (below_step (by repeat (first | (with_reducible first | exact HB.out | apply below_alloc | apply pw_below_drewN | apply below_drew1) | exact HB.out)) hb); have n1_ := Aside0.mk (hbox); have n2_ := Aside0.mk ((by rw [hg]; exact (below_size (by repeat (first | (with_reducible first | exact HB.out | apply below_alloc | apply pw_below_drewN | apply below_drew1) | exact HB.out))) : w.heap.size ≤ gb291)); have n3_ := Aside0.mk ((by rw [hg]; exact (below_size (by repeat (first | (with_reducible first | exact HB.out | apply below_alloc | apply pw_below_drewN | apply below_drew1) | exact HB.out))) : w.heap.size ≤ gb291)); clear HB; have HB := n0_; have BK291 := n1_; have GW291 := n2_; have GE291 := n3_; clear n0_ n1_ n2_ n3_; clear hb hbox hg) | ((with_reducible refine gate_callee (f := 23) rfl ?_); refine goesL_ (some 15) rfl rfl Try.func23 (by kernel_rfl) rfl #[.slice A0 l0.length c0, .int .i64 1048576] rfl (by (try simp only [List.map_toArray, List.map_cons, List.map_nil]); first | done | rfl | (simp only [List.length_drop, List.length_take]; rfl)) ?_; (with_reducible refine (laws_szBindS.calls _ _ l0 1048576 t292 _ ?side1 ?side2 A3.out).mono ?_); (case side1 => repeat (first | exact (Kd.C_below HR0.out HB.out) | (with_reducible refine Kd.C_alloc ?_ _) | (with_reducible refine Kd.C_drewN ?_ _) | (with_reducible refine Kd.C_drew ?_))); (case side2 => exact HC0.out); rintro e w' ⟨rfl, ⟨nd, rfl⟩⟩; refine ⟨_, rfl, ?_⟩; (try (rw [drewN_self w33]; generalize hq_ : World.drewN w33 _ = w33; have n0_ : Aside0 (w33.heap[gb291]? = some (.cells #[.int .i64 a1_0, .int .i64 a1_1, .int .i64 a1_2, .int .i64 a1_3] 55 (0, 0))) := ⟨by rw [← hq_]; exact (by (with_reducible repeat (first | refine blk_drewN ?_ _ | refine blk_drew ?_ | refine blk_alloc ?_ _)); exact BK291.out)⟩; have n1_ : Aside0 (Below w.heap.size w w33) := ⟨by rw [← hq_]; exact (by repeat (first | (with_reducible first | exact HB.out | apply below_alloc | apply pw_below_drewN | apply below_drew1 | refine below_set ?_ GE291.out) | exact HB.out))⟩; clear BK291 HB hq_; have BK291 := n0_; have HB := n1_; clear n0_ n1_))))
           have n0_ := Aside0.mk (blk_drew BK291.out)
           have n1_ := Aside0.mk (below_drew1 HB.out)
           clear BK291
           clear HB
           have BK291 := n0_
           have HB := n1_
           clear n0_ n1_
           refine start_ (n := 7) (S := fun w' => w'.cell? ⟨gb291, 0, none⟩ = some (.int .i64 a1_0) ∧ w'.cell? ⟨gb291, 1, none⟩ = some (.int .i64 a1_1) ∧ w'.cell? ⟨gb291, 2, none⟩ = some (.int .i64 a1_2) ∧ w'.cell? ⟨gb291, 3, none⟩ = some (.int .i64 a1_3)) (ds := []) #[false, false, false, false, false, false, false] (by kernel_rfl) rfl rfl ⟨(blk_cell BK291.out 0).trans rfl, (blk_cell BK291.out 1).trans rfl, (blk_cell BK291.out 2).trans rfl, (blk_cell BK291.out 3).trans rfl⟩ (fun hHeld => ?_)
           generalize w33.drew = w34 at BK291 HB hHeld ⊢
           refine pure_ (i := 0) (N := some 18) (v := ?_) (a' := ?_) #[true, false, false, false, false, false, false] rfl rfl (by kernel_rfl) (fun _ _ _ h => h) (Or.inl ⟨by rfl, ?_⟩) ?_ ?_
           rotate_left
           ·intro w'
            go_simp
            with_reducible rfl
           rotate_left
           ·simp only [Act.put, List.setIfInBounds_toArray, List.set_cons_zero, List.set_cons_succ, i64_w, i32_w]
            rfl
           refine take_ (i := 2) (N := some 20) (v := ?_) (a' := ?_) #[true, false, true, false, false, false, false] rfl rfl (by kernel_rfl) (fun _ _ _ h => h) (Or.inl ⟨by rfl, ?_⟩) hHeld ?_ ?_
           rotate_left
           ·rintro w' ⟨s0, s1, s2, s3⟩
            go_simp
            with_reducible rfl
           rotate_left
           ·simp only [Act.put, List.setIfInBounds_toArray, List.set_cons_zero, List.set_cons_succ, i64_w, i32_w]
            rfl
           refine join_ (σ := Value × Value × Nat) 1 #[true, true, true, true, true, true, false] (fun s_ => [(19, s_.1), (21, .agg #[.int .i64 t296, .int .i64 t297, .int .i64 t298, .int .i64 t299]), (22, .agg #[.int .i64 t300, s_.2.1]), (6, .pointer (some ⟨s_.2.2, 0, none⟩))]) (fun s_ w' => (w'.cell? ⟨gb291, 0, none⟩ = some (.int .i64 a1_0) ∧ w'.cell? ⟨gb291, 1, none⟩ = some (.int .i64 a1_1) ∧ w'.cell? ⟨gb291, 2, none⟩ = some (.int .i64 a1_2) ∧ w'.cell? ⟨gb291, 3, none⟩ = some (.int .i64 a1_3)) ∧ (Kd.R k64 64 w' w.heap.size (fun k_ => some k_ ≠ (s_.2.1 : Value).ownBlock) s_.1 t293) ∧ (Kd.R k64 64 w' w.heap.size (fun k_ => some k_ ≠ (s_.1 : Value).ownBlock) s_.2.1 t301) ∧ (w'.heap[gb291]? = some (.cells #[.int .i64 a1_0, .int .i64 a1_1, .int .i64 a1_2, .int .i64 a1_3] 55 (0, 0))) ∧ (w'.heap[s_.2.2]? = some (.cells #[.int .i64 0, .slice none 0 0] 59 (0, 0))) ∧ (w.heap.size ≤ s_.2.2) ∧ (w.heap.size ≤ s_.2.2) ∧ (gb291 ≠ s_.2.2) ∧ (s_.2.2 ≠ gb291) ∧ (Below w.heap.size w w')) ?_ ?_
           rotate_left
           ·intro hCont
            refine two_ (i := 1) (j := 5) (Ni := some 19) (Nj := some 6) #[true, true, true, false, false, false, false] #[true, false, true, false, false, true, false] rfl rfl rfl rfl (by kernel_rfl) (by decide) (by decide) (fun K hK => ?_) (fun K hK => ?_)
            ·skip
             refine goes_ Try.func25 (by kernel_rfl) rfl #[.slice A0 l0.length c0] (by rfl) rfl rfl (by (try simp only [List.map_toArray, List.map_cons, List.map_nil]); first | done | rfl | (simp only [List.length_drop, List.length_take]; rfl)) ?_
             with_reducible refine (laws_toBindS.calls k _ _ l0 t293 _ ?side1 ?side2 A6.out).mono ?_
             (case side1 => repeat (first | exact (Kd.C_below HR0.out HB.out) | (with_reducible refine Kd.C_alloc ?_ _) | (with_reducible refine Kd.C_drewN ?_ _) | (with_reducible refine Kd.C_drew ?_)))
             (case side2 => exact HC0.out)
             rintro e w35 ⟨v294, rfl, ho0, hb⟩
             refine ⟨_, rfl, ?_⟩
             have n0_ := Aside0.mk (Kd.R_lower ho0 (below_size (by repeat (first | (with_reducible first | exact HB.out | apply below_alloc | apply pw_below_drewN | apply below_drew1 | refine below_set ?_ GE291.out) | exact HB.out))))
             have n1_ := Aside0.mk (blkb hb BK291.out)
             have n2_ := Aside0.mk (below_step (by repeat (first | (with_reducible first | exact HB.out | apply below_alloc | apply pw_below_drewN | apply below_drew1 | refine below_set ?_ GE291.out) | exact HB.out)) hb)
             clear BK291
             clear HB
             have HO295 := n0_
             have BK291 := n1_
             have HB := n2_
             clear n0_ n1_ n2_
             (try clear hb)
             (try clear hb2)
             (try clear hk)
             (try clear hi)
             (try clear ho0)
             refine hK.out _ _ ⟨(blk_cell BK291.out 0).trans rfl, (blk_cell BK291.out 1).trans rfl, (blk_cell BK291.out 2).trans rfl, (blk_cell BK291.out 3).trans rfl⟩ (fun hHeld => ?_)
             clear hK K
             refine norm_ (a' := ?_) ?_ ?_
             rotate_left
             ·show Act.put _ (some 19) _ = _
              simp only [Act.put, List.setIfInBounds_toArray, List.set_cons_zero, List.set_cons_succ, i64_w, i32_w]
              rfl
             refine two_ (i := 3) (j := 5) (Ni := some 21) (Nj := some 6) #[true, true, true, true, false, false, false] #[true, true, true, false, false, true, false] rfl rfl rfl rfl (by kernel_rfl) (by decide) (by decide) (fun K hK => ?_) (fun K hK => ?_)
             ·skip
              refine goes_ Try.func26 (by kernel_rfl) rfl #[.agg #[.int .i64 a1_0, .int .i64 a1_1, .int .i64 a1_2, .int .i64 a1_3]] (by rfl) rfl rfl (by (try simp only [List.map_toArray, List.map_cons, List.map_nil]); first | done | rfl | (simp only [List.length_drop, List.length_take]; rfl)) ?_
              with_reducible refine (laws_toBind.calls a1_0 a1_1 a1_2 a1_3 t296 t297 t298 t299 _ A7.out).mono ?_
              rintro e w36 ⟨rfl, hb⟩
              refine ⟨_, rfl, ?_⟩
              have n0_ := Aside0.mk (Kd.R_below (by (with_reducible repeat (first | apply Kd.R_alloc | apply Kd.R_drewN | apply Kd.R_drew)); exact HO295.out) hb)
              have n1_ := Aside0.mk (blkb hb BK291.out)
              have n2_ := Aside0.mk (below_step (by repeat (first | (with_reducible first | exact HB.out | apply below_alloc | apply pw_below_drewN | apply below_drew1 | refine below_set ?_ GE291.out) | exact HB.out)) hb)
              clear HO295
              clear BK291
              clear HB
              have HO295 := n0_
              have BK291 := n1_
              have HB := n2_
              clear n0_ n1_ n2_
              (try clear hb)
              (try clear hb2)
              (try clear hk)
              (try clear hi)
              obtain ⟨Ao37, co37, eo37⟩ := Kd.R_slice HO295.out
              (first | subst eo37 | (injection eo37 with f1_ f2_ f3_; have f4_ := f1_.symm; have f5_ := f3_.symm; clear f1_ f2_ f3_; subst f4_; subst f5_))
              refine hK.out _ _ ⟨(blk_cell BK291.out 0).trans rfl, (blk_cell BK291.out 1).trans rfl, (blk_cell BK291.out 2).trans rfl, (blk_cell BK291.out 3).trans rfl⟩ (fun hHeld => ?_)
              clear hK K
              refine norm_ (a' := ?_) ?_ ?_
              rotate_left
              ·show Act.put _ (some 21) _ = _
               simp only [Act.put, List.setIfInBounds_toArray, List.set_cons_zero, List.set_cons_succ, i64_w, i32_w]
               rfl
              refine two_ (i := 4) (j := 5) (Ni := some 22) (Nj := some 6) #[true, true, true, true, true, false, false] #[true, true, true, true, false, true, false] rfl rfl rfl rfl (by kernel_rfl) (by decide) (by decide) (fun K hK => ?_) (fun K hK => ?_)
              ·skip
               refine goes_ Try.func24 (by kernel_rfl) rfl #[.slice Ao37 t293.length co37, .agg #[.int .i64 t296, .int .i64 t297, .int .i64 t298, .int .i64 t299]] (by rfl) rfl rfl (by (try simp only [List.map_toArray, List.map_cons, List.map_nil]); first | done | rfl | (simp only [List.length_drop, List.length_take]; rfl)) ?_
               with_reducible refine (spec_PutBind.calls k _ _ t293 t296 t297 t298 t299 t300 t301 _ ?side1 ?side2 A8.out).mono ?_
               (case side1 => repeat (first | exact (Kd.R_reads' HO295.out).2.2 | (with_reducible refine Kd.C_alloc ?_ _) | (with_reducible refine Kd.C_drewN ?_ _) | (with_reducible refine Kd.C_drew ?_)))
               (case side2 => exact (Kd.R_reads' HO295.out).2.1)
               rintro e w38 ⟨v302, rfl, ho0, hb⟩
               refine ⟨_, rfl, ?_⟩
               have n0_ := Aside0.mk (Kd.R_elder' (by (with_reducible repeat (first | apply Kd.R_alloc | apply Kd.R_drewN | apply Kd.R_drew)); exact HO295.out) (Kd.R_base ho0) hb)
               have n1_ := Aside0.mk (Kd.R_lower (Kd.R_new' ho0 (Kd.R_lt (by (with_reducible repeat (first | apply Kd.R_alloc | apply Kd.R_drewN | apply Kd.R_drew)); exact HO295.out))) (below_size (by repeat (first | (with_reducible first | exact HB.out | apply below_alloc | apply pw_below_drewN | apply below_drew1 | refine below_set ?_ GE291.out) | exact HB.out))))
               have n2_ := Aside0.mk (blkb hb BK291.out)
               have n3_ := Aside0.mk (below_step (by repeat (first | (with_reducible first | exact HB.out | apply below_alloc | apply pw_below_drewN | apply below_drew1 | refine below_set ?_ GE291.out) | exact HB.out)) hb)
               clear HO295
               clear BK291
               clear HB
               have HO295 := n0_
               have HO303 := n1_
               have BK291 := n2_
               have HB := n3_
               clear n0_ n1_ n2_ n3_
               (try clear hb)
               (try clear hb2)
               (try clear hk)
               (try clear hi)
               (try clear ho0)
               refine hK.out _ _ ⟨(blk_cell BK291.out 0).trans rfl, (blk_cell BK291.out 1).trans rfl, (blk_cell BK291.out 2).trans rfl, (blk_cell BK291.out 3).trans rfl⟩ (fun hHeld => ?_)
               clear hK K
               refine norm_ (a' := ?_) ?_ ?_
               rotate_left
               ·show Act.put _ (some 22) _ = _
                simp only [Act.put, List.setIfInBounds_toArray, List.set_cons_zero, List.set_cons_succ, i64_w, i32_w]
                rfl
               refine one_ (i := 5) (N := some 6) #[true, true, true, true, true, true, false] rfl rfl (by kernel_rfl) (by decide) (fun K hK => ?_)
               refine box_step ?hg (N := 6) ?hd (cs := #[.int .i64 0, .slice none 0 0]) (t := 59) ?hr ?_; (case hd => rfl); (case hg => rfl); (case hr => first | (go_simp; done) | (go_simp; rfl))
               intro gb304 hg w39 hbox hb
               have n0_ := Aside0.mk (Kd.R_below (by (with_reducible repeat (first | apply Kd.R_alloc | apply Kd.R_drewN | apply Kd.R_drew)); exact HO295.out) hb)
               have n1_ := Aside0.mk (Kd.R_below (by (with_reducible repeat (first | apply Kd.R_alloc | apply Kd.R_drewN | apply Kd.R_drew)); exact HO303.out) hb)
               have n2_ := Aside0.mk (blkb hb BK291.out)
               have n3_ := Aside0.mk (below_step (by repeat (first | (with_reducible first | exact HB.out | apply below_alloc | apply pw_below_drewN | apply below_drew1 | refine below_set ?_ GE291.out) | exact HB.out)) hb)
               have n4_ := Aside0.mk (hbox)
               have n5_ := Aside0.mk ((by rw [hg]; exact (below_size (by repeat (first | (with_reducible first | exact HB.out | apply below_alloc | apply pw_below_drewN | apply below_drew1 | refine below_set ?_ GE291.out) | exact HB.out))) : w.heap.size ≤ gb304))
               have n6_ := Aside0.mk ((by rw [hg]; exact (below_size (by repeat (first | (with_reducible first | exact HB.out | apply below_alloc | apply pw_below_drewN | apply below_drew1 | refine below_set ?_ GE291.out) | exact HB.out))) : w.heap.size ≤ gb304))
               have n7_ := Aside0.mk ((blkn hg BK291.out))
               have n8_ := Aside0.mk ((blkm hg BK291.out))
               clear HO295
               clear HO303
               clear BK291
               clear HB
               have HO295 := n0_
               have HO303 := n1_
               have BK291 := n2_
               have HB := n3_
               have BK304 := n4_
               have GW304 := n5_
               have GE304 := n6_
               have NB291_304 := n7_
               have NB304_291 := n8_
               clear n0_ n1_ n2_ n3_ n4_ n5_ n6_ n7_ n8_
               clear hb hbox hg
               refine hK.out _ _ ⟨(blk_cell BK291.out 0).trans rfl, (blk_cell BK291.out 1).trans rfl, (blk_cell BK291.out 2).trans rfl, (blk_cell BK291.out 3).trans rfl⟩ (fun hHeld => ?_)
               clear hK K
               refine norm_ (a' := ?_) ?_ ?_
               rotate_left
               ·show Act.put _ (some 6) _ = _
                simp only [Act.put, List.setIfInBounds_toArray, List.set_cons_zero, List.set_cons_succ, i64_w, i32_w]
                rfl
               exact norm_ (by simp only [putAll, Act.put, List.setIfInBounds_toArray, List.set_cons_zero, List.set_cons_succ]) (hCont (.slice Ao37 t293.length co37, v302, gb304) _ ⟨hHeld, (by (with_reducible repeat (first | apply Kd.R_alloc | apply Kd.R_drewN | apply Kd.R_drew)); exact Kd.R_mono HO295.out (fun _ hk => hk.2)), (by (with_reducible repeat (first | apply Kd.R_alloc | apply Kd.R_drewN | apply Kd.R_drew)); exact Kd.R_mono HO303.out (fun _ hk => hk.2)), (by (with_reducible repeat (first | refine blk_drewN ?_ _ | refine blk_drew ?_ | refine blk_alloc ?_ _)); exact BK291.out), (by (with_reducible repeat (first | refine blk_drewN ?_ _ | refine blk_drew ?_ | refine blk_alloc ?_ _)); exact BK304.out), GW304.out, GE304.out, NB291_304.out, NB304_291.out, (by repeat (first | (with_reducible first | exact HB.out | apply below_alloc | apply pw_below_drewN | apply below_drew1 | refine below_set ?_ GE291.out | refine below_set ?_ GE304.out) | exact HB.out))⟩)
              ·skip
               refine box_step ?hg (N := 6) ?hd (cs := #[.int .i64 0, .slice none 0 0]) (t := 59) ?hr ?_; (case hd => rfl); (case hg => rfl); (case hr => first | (go_simp; done) | (go_simp; rfl))
               intro gb304 hg w37 hbox hb
               have n0_ := Aside0.mk (Kd.R_below (by (with_reducible repeat (first | apply Kd.R_alloc | apply Kd.R_drewN | apply Kd.R_drew)); exact HO295.out) hb)
               have n1_ := Aside0.mk (blkb hb BK291.out)
               have n2_ := Aside0.mk (below_step (by repeat (first | (with_reducible first | exact HB.out | apply below_alloc | apply pw_below_drewN | apply below_drew1 | refine below_set ?_ GE291.out) | exact HB.out)) hb)
               have n3_ := Aside0.mk (hbox)
               have n4_ := Aside0.mk ((by rw [hg]; exact (below_size (by repeat (first | (with_reducible first | exact HB.out | apply below_alloc | apply pw_below_drewN | apply below_drew1 | refine below_set ?_ GE291.out) | exact HB.out))) : w.heap.size ≤ gb304))
               have n5_ := Aside0.mk ((by rw [hg]; exact (below_size (by repeat (first | (with_reducible first | exact HB.out | apply below_alloc | apply pw_below_drewN | apply below_drew1 | refine below_set ?_ GE291.out) | exact HB.out))) : w.heap.size ≤ gb304))
               have n6_ := Aside0.mk ((blkn hg BK291.out))
               have n7_ := Aside0.mk ((blkm hg BK291.out))
               clear HO295
               clear BK291
               clear HB
               have HO295 := n0_
               have BK291 := n1_
               have HB := n2_
               have BK304 := n3_
               have GW304 := n4_
               have GE304 := n5_
               have NB291_304 := n6_
               have NB304_291 := n7_
               clear n0_ n1_ n2_ n3_ n4_ n5_ n6_ n7_
               clear hb hbox hg
               obtain ⟨Ao38, co38, eo38⟩ := Kd.R_slice HO295.out
               (first | subst eo38 | (injection eo38 with f1_ f2_ f3_; have f4_ := f1_.symm; have f5_ := f3_.symm; clear f1_ f2_ f3_; subst f4_; subst f5_))
               refine hK.out _ _ ⟨(blk_cell BK291.out 0).trans rfl, (blk_cell BK291.out 1).trans rfl, (blk_cell BK291.out 2).trans rfl, (blk_cell BK291.out 3).trans rfl⟩ (fun hHeld => ?_)
               clear hK K
               refine norm_ (a' := ?_) ?_ ?_
               rotate_left
               ·show Act.put _ (some 6) _ = _
                simp only [Act.put, List.setIfInBounds_toArray, List.set_cons_zero, List.set_cons_succ, i64_w, i32_w]
                rfl
               refine one_ (i := 4) (N := some 22) #[true, true, true, true, true, true, false] rfl rfl (by kernel_rfl) (by decide) (fun K hK => ?_)
               refine goes_ Try.func24 (by kernel_rfl) rfl #[.slice Ao38 t293.length co38, .agg #[.int .i64 t296, .int .i64 t297, .int .i64 t298, .int .i64 t299]] (by rfl) rfl rfl (by (try simp only [List.map_toArray, List.map_cons, List.map_nil]); first | done | rfl | (simp only [List.length_drop, List.length_take]; rfl)) ?_
               with_reducible refine (spec_PutBind.calls k _ _ t293 t296 t297 t298 t299 t300 t301 _ ?side1 ?side2 A8.out).mono ?_
               (case side1 => repeat (first | exact (Kd.R_reads' HO295.out).2.2 | (with_reducible refine Kd.C_alloc ?_ _) | (with_reducible refine Kd.C_drewN ?_ _) | (with_reducible refine Kd.C_drew ?_)))
               (case side2 => exact (Kd.R_reads' HO295.out).2.1)
               rintro e w39 ⟨v302, rfl, ho0, hb⟩
               refine ⟨_, rfl, ?_⟩
               have n0_ := Aside0.mk (Kd.R_elder' (by (with_reducible repeat (first | apply Kd.R_alloc | apply Kd.R_drewN | apply Kd.R_drew)); exact HO295.out) (Kd.R_base ho0) hb)
               have n1_ := Aside0.mk (Kd.R_lower (Kd.R_new' ho0 (Kd.R_lt (by (with_reducible repeat (first | apply Kd.R_alloc | apply Kd.R_drewN | apply Kd.R_drew)); exact HO295.out))) (below_size (by repeat (first | (with_reducible first | exact HB.out | apply below_alloc | apply pw_below_drewN | apply below_drew1 | refine below_set ?_ GE291.out | refine below_set ?_ GE304.out) | exact HB.out))))
               have n2_ := Aside0.mk (blkb hb BK291.out)
               have n3_ := Aside0.mk (blkb hb BK304.out)
               have n4_ := Aside0.mk (below_step (by repeat (first | (with_reducible first | exact HB.out | apply below_alloc | apply pw_below_drewN | apply below_drew1 | refine below_set ?_ GE291.out | refine below_set ?_ GE304.out) | exact HB.out)) hb)
               clear HO295
               clear BK291
               clear BK304
               clear HB
               have HO295 := n0_
               have HO303 := n1_
               have BK291 := n2_
               have BK304 := n3_
               have HB := n4_
               clear n0_ n1_ n2_ n3_ n4_
               (try clear hb)
               (try clear hb2)
               (try clear hk)
               (try clear hi)
               (try clear ho0)
               refine hK.out _ _ ⟨(blk_cell BK291.out 0).trans rfl, (blk_cell BK291.out 1).trans rfl, (blk_cell BK291.out 2).trans rfl, (blk_cell BK291.out 3).trans rfl⟩ (fun hHeld => ?_)
               clear hK K
               refine norm_ (a' := ?_) ?_ ?_
               rotate_left
               ·show Act.put _ (some 22) _ = _
                simp only [Act.put, List.setIfInBounds_toArray, List.set_cons_zero, List.set_cons_succ, i64_w, i32_w]
                rfl
               exact norm_ (by simp only [putAll, Act.put, List.setIfInBounds_toArray, List.set_cons_zero, List.set_cons_succ]) (hCont (.slice Ao38 t293.length co38, v302, gb304) _ ⟨hHeld, (by (with_reducible repeat (first | apply Kd.R_alloc | apply Kd.R_drewN | apply Kd.R_drew)); exact Kd.R_mono HO295.out (fun _ hk => hk.2)), (by (with_reducible repeat (first | apply Kd.R_alloc | apply Kd.R_drewN | apply Kd.R_drew)); exact Kd.R_mono HO303.out (fun _ hk => hk.2)), (by (with_reducible repeat (first | refine blk_drewN ?_ _ | refine blk_drew ?_ | refine blk_alloc ?_ _)); exact BK291.out), (by (with_reducible repeat (first | refine blk_drewN ?_ _ | refine blk_drew ?_ | refine blk_alloc ?_ _)); exact BK304.out), GW304.out, GE304.out, NB291_304.out, NB304_291.out, (by repeat (first | (with_reducible first | exact HB.out | apply below_alloc | apply pw_below_drewN | apply below_drew1 | refine below_set ?_ GE291.out | refine below_set ?_ GE304.out) | exact HB.out))⟩)
             ·skip
              refine box_step ?hg (N := 6) ?hd (cs := #[.int .i64 0, .slice none 0 0]) (t := 59) ?hr ?_; (case hd => rfl); (case hg => rfl); (case hr => first | (go_simp; done) | (go_simp; rfl))
              intro gb304 hg w36 hbox hb
              have n0_ := Aside0.mk (Kd.R_below (by (with_reducible repeat (first | apply Kd.R_alloc | apply Kd.R_drewN | apply Kd.R_drew)); exact HO295.out) hb)
              have n1_ := Aside0.mk (blkb hb BK291.out)
              have n2_ := Aside0.mk (below_step (by repeat (first | (with_reducible first | exact HB.out | apply below_alloc | apply pw_below_drewN | apply below_drew1 | refine below_set ?_ GE291.out) | exact HB.out)) hb)
              have n3_ := Aside0.mk (hbox)
              have n4_ := Aside0.mk ((by rw [hg]; exact (below_size (by repeat (first | (with_reducible first | exact HB.out | apply below_alloc | apply pw_below_drewN | apply below_drew1 | refine below_set ?_ GE291.out) | exact HB.out))) : w.heap.size ≤ gb304))
              have n5_ := Aside0.mk ((by rw [hg]; exact (below_size (by repeat (first | (with_reducible first | exact HB.out | apply below_alloc | apply pw_below_drewN | apply below_drew1 | refine below_set ?_ GE291.out) | exact HB.out))) : w.heap.size ≤ gb304))
              have n6_ := Aside0.mk ((blkn hg BK291.out))
              have n7_ := Aside0.mk ((blkm hg BK291.out))
              clear HO295
              clear BK291
              clear HB
              have HO295 := n0_
              have BK291 := n1_
              have HB := n2_
              have BK304 := n3_
              have GW304 := n4_
              have GE304 := n5_
              have NB291_304 := n6_
              have NB304_291 := n7_
              clear n0_ n1_ n2_ n3_ n4_ n5_ n6_ n7_
              clear hb hbox hg
              refine hK.out _ _ ⟨(blk_cell BK291.out 0).trans rfl, (blk_cell BK291.out 1).trans rfl, (blk_cell BK291.out 2).trans rfl, (blk_cell BK291.out 3).trans rfl⟩ (fun hHeld => ?_)
              clear hK K
              refine norm_ (a' := ?_) ?_ ?_
              rotate_left
              ·show Act.put _ (some 6) _ = _
               simp only [Act.put, List.setIfInBounds_toArray, List.set_cons_zero, List.set_cons_succ, i64_w, i32_w]
               rfl
              refine one_ (i := 3) (N := some 21) #[true, true, true, true, false, true, false] rfl rfl (by kernel_rfl) (by decide) (fun K hK => ?_)
              refine goes_ Try.func26 (by kernel_rfl) rfl #[.agg #[.int .i64 a1_0, .int .i64 a1_1, .int .i64 a1_2, .int .i64 a1_3]] (by rfl) rfl rfl (by (try simp only [List.map_toArray, List.map_cons, List.map_nil]); first | done | rfl | (simp only [List.length_drop, List.length_take]; rfl)) ?_
              with_reducible refine (laws_toBind.calls a1_0 a1_1 a1_2 a1_3 t296 t297 t298 t299 _ A7.out).mono ?_
              rintro e w37 ⟨rfl, hb⟩
              refine ⟨_, rfl, ?_⟩
              have n0_ := Aside0.mk (Kd.R_below (by (with_reducible repeat (first | apply Kd.R_alloc | apply Kd.R_drewN | apply Kd.R_drew)); exact HO295.out) hb)
              have n1_ := Aside0.mk (blkb hb BK291.out)
              have n2_ := Aside0.mk (blkb hb BK304.out)
              have n3_ := Aside0.mk (below_step (by repeat (first | (with_reducible first | exact HB.out | apply below_alloc | apply pw_below_drewN | apply below_drew1 | refine below_set ?_ GE291.out | refine below_set ?_ GE304.out) | exact HB.out)) hb)
              clear HO295
              clear BK291
              clear BK304
              clear HB
              have HO295 := n0_
              have BK291 := n1_
              have BK304 := n2_
              have HB := n3_
              clear n0_ n1_ n2_ n3_
              (try clear hb)
              (try clear hb2)
              (try clear hk)
              (try clear hi)
              obtain ⟨Ao38, co38, eo38⟩ := Kd.R_slice HO295.out
              (first | subst eo38 | (injection eo38 with f1_ f2_ f3_; have f4_ := f1_.symm; have f5_ := f3_.symm; clear f1_ f2_ f3_; subst f4_; subst f5_))
              refine hK.out _ _ ⟨(blk_cell BK291.out 0).trans rfl, (blk_cell BK291.out 1).trans rfl, (blk_cell BK291.out 2).trans rfl, (blk_cell BK291.out 3).trans rfl⟩ (fun hHeld => ?_)
              clear hK K
              refine norm_ (a' := ?_) ?_ ?_
              rotate_left
              ·show Act.put _ (some 21) _ = _
               simp only [Act.put, List.setIfInBounds_toArray, List.set_cons_zero, List.set_cons_succ, i64_w, i32_w]
               rfl
              refine one_ (i := 4) (N := some 22) #[true, true, true, true, true, true, false] rfl rfl (by kernel_rfl) (by decide) (fun K hK => ?_)
              refine goes_ Try.func24 (by kernel_rfl) rfl #[.slice Ao38 t293.length co38, .agg #[.int .i64 t296, .int .i64 t297, .int .i64 t298, .int .i64 t299]] (by rfl) rfl rfl (by (try simp only [List.map_toArray, List.map_cons, List.map_nil]); first | done | rfl | (simp only [List.length_drop, List.length_take]; rfl)) ?_
              with_reducible refine (spec_PutBind.calls k _ _ t293 t296 t297 t298 t299 t300 t301 _ ?side1 ?side2 A8.out).mono ?_
              (case side1 => repeat (first | exact (Kd.R_reads' HO295.out).2.2 | (with_reducible refine Kd.C_alloc ?_ _) | (with_reducible refine Kd.C_drewN ?_ _) | (with_reducible refine Kd.C_drew ?_)))
              (case side2 => exact (Kd.R_reads' HO295.out).2.1)
              rintro e w39 ⟨v302, rfl, ho0, hb⟩
              refine ⟨_, rfl, ?_⟩
              have n0_ := Aside0.mk (Kd.R_elder' (by (with_reducible repeat (first | apply Kd.R_alloc | apply Kd.R_drewN | apply Kd.R_drew)); exact HO295.out) (Kd.R_base ho0) hb)
              have n1_ := Aside0.mk (Kd.R_lower (Kd.R_new' ho0 (Kd.R_lt (by (with_reducible repeat (first | apply Kd.R_alloc | apply Kd.R_drewN | apply Kd.R_drew)); exact HO295.out))) (below_size (by repeat (first | (with_reducible first | exact HB.out | apply below_alloc | apply pw_below_drewN | apply below_drew1 | refine below_set ?_ GE291.out | refine below_set ?_ GE304.out) | exact HB.out))))
              have n2_ := Aside0.mk (blkb hb BK291.out)
              have n3_ := Aside0.mk (blkb hb BK304.out)
              have n4_ := Aside0.mk (below_step (by repeat (first | (with_reducible first | exact HB.out | apply below_alloc | apply pw_below_drewN | apply below_drew1 | refine below_set ?_ GE291.out | refine below_set ?_ GE304.out) | exact HB.out)) hb)
              clear HO295
              clear BK291
              clear BK304
              clear HB
              have HO295 := n0_
              have HO303 := n1_
              have BK291 := n2_
              have BK304 := n3_
              have HB := n4_
              clear n0_ n1_ n2_ n3_ n4_
              (try clear hb)
              (try clear hb2)
              (try clear hk)
              (try clear hi)
              (try clear ho0)
              refine hK.out _ _ ⟨(blk_cell BK291.out 0).trans rfl, (blk_cell BK291.out 1).trans rfl, (blk_cell BK291.out 2).trans rfl, (blk_cell BK291.out 3).trans rfl⟩ (fun hHeld => ?_)
              clear hK K
              refine norm_ (a' := ?_) ?_ ?_
              rotate_left
              ·show Act.put _ (some 22) _ = _
               simp only [Act.put, List.setIfInBounds_toArray, List.set_cons_zero, List.set_cons_succ, i64_w, i32_w]
               rfl
              exact norm_ (by simp only [putAll, Act.put, List.setIfInBounds_toArray, List.set_cons_zero, List.set_cons_succ]) (hCont (.slice Ao38 t293.length co38, v302, gb304) _ ⟨hHeld, (by (with_reducible repeat (first | apply Kd.R_alloc | apply Kd.R_drewN | apply Kd.R_drew)); exact Kd.R_mono HO295.out (fun _ hk => hk.2)), (by (with_reducible repeat (first | apply Kd.R_alloc | apply Kd.R_drewN | apply Kd.R_drew)); exact Kd.R_mono HO303.out (fun _ hk => hk.2)), (by (with_reducible repeat (first | refine blk_drewN ?_ _ | refine blk_drew ?_ | refine blk_alloc ?_ _)); exact BK291.out), (by (with_reducible repeat (first | refine blk_drewN ?_ _ | refine blk_drew ?_ | refine blk_alloc ?_ _)); exact BK304.out), GW304.out, GE304.out, NB291_304.out, NB304_291.out, (by repeat (first | (with_reducible first | exact HB.out | apply below_alloc | apply pw_below_drewN | apply below_drew1 | refine below_set ?_ GE291.out | refine below_set ?_ GE304.out) | exact HB.out))⟩)
            ·skip
             refine box_step ?hg (N := 6) ?hd (cs := #[.int .i64 0, .slice none 0 0]) (t := 59) ?hr ?_; (case hd => rfl); (case hg => rfl); (case hr => first | (go_simp; done) | (go_simp; rfl))
             intro gb304 hg w35 hbox hb
             have n0_ := Aside0.mk (blkb hb BK291.out)
             have n1_ := Aside0.mk (below_step (by repeat (first | (with_reducible first | exact HB.out | apply below_alloc | apply pw_below_drewN | apply below_drew1 | refine below_set ?_ GE291.out) | exact HB.out)) hb)
             have n2_ := Aside0.mk (hbox)
             have n3_ := Aside0.mk ((by rw [hg]; exact (below_size (by repeat (first | (with_reducible first | exact HB.out | apply below_alloc | apply pw_below_drewN | apply below_drew1 | refine below_set ?_ GE291.out) | exact HB.out))) : w.heap.size ≤ gb304))
             have n4_ := Aside0.mk ((by rw [hg]; exact (below_size (by repeat (first | (with_reducible first | exact HB.out | apply below_alloc | apply pw_below_drewN | apply below_drew1 | refine below_set ?_ GE291.out) | exact HB.out))) : w.heap.size ≤ gb304))
             have n5_ := Aside0.mk ((blkn hg BK291.out))
             have n6_ := Aside0.mk ((blkm hg BK291.out))
             clear BK291
             clear HB
             have BK291 := n0_
             have HB := n1_
             have BK304 := n2_
             have GW304 := n3_
             have GE304 := n4_
             have NB291_304 := n5_
             have NB304_291 := n6_
             clear n0_ n1_ n2_ n3_ n4_ n5_ n6_
             clear hb hbox hg
             refine hK.out _ _ ⟨(blk_cell BK291.out 0).trans rfl, (blk_cell BK291.out 1).trans rfl, (blk_cell BK291.out 2).trans rfl, (blk_cell BK291.out 3).trans rfl⟩ (fun hHeld => ?_)
             clear hK K
             refine norm_ (a' := ?_) ?_ ?_
             rotate_left
             ·show Act.put _ (some 6) _ = _
              simp only [Act.put, List.setIfInBounds_toArray, List.set_cons_zero, List.set_cons_succ, i64_w, i32_w]
              rfl
             refine one_ (i := 1) (N := some 19) #[true, true, true, false, false, true, false] rfl rfl (by kernel_rfl) (by decide) (fun K hK => ?_)
             refine goes_ Try.func25 (by kernel_rfl) rfl #[.slice A0 l0.length c0] (by rfl) rfl rfl (by (try simp only [List.map_toArray, List.map_cons, List.map_nil]); first | done | rfl | (simp only [List.length_drop, List.length_take]; rfl)) ?_
             with_reducible refine (laws_toBindS.calls k _ _ l0 t293 _ ?side1 ?side2 A6.out).mono ?_
             (case side1 => repeat (first | exact (Kd.C_below HR0.out HB.out) | (with_reducible refine Kd.C_alloc ?_ _) | (with_reducible refine Kd.C_drewN ?_ _) | (with_reducible refine Kd.C_drew ?_)))
             (case side2 => exact HC0.out)
             rintro e w36 ⟨v294, rfl, ho0, hb⟩
             refine ⟨_, rfl, ?_⟩
             have n0_ := Aside0.mk (Kd.R_lower ho0 (below_size (by repeat (first | (with_reducible first | exact HB.out | apply below_alloc | apply pw_below_drewN | apply below_drew1 | refine below_set ?_ GE291.out | refine below_set ?_ GE304.out) | exact HB.out))))
             have n1_ := Aside0.mk (blkb hb BK291.out)
             have n2_ := Aside0.mk (blkb hb BK304.out)
             have n3_ := Aside0.mk (below_step (by repeat (first | (with_reducible first | exact HB.out | apply below_alloc | apply pw_below_drewN | apply below_drew1 | refine below_set ?_ GE291.out | refine below_set ?_ GE304.out) | exact HB.out)) hb)
             clear BK291
             clear BK304
             clear HB
             have HO295 := n0_
             have BK291 := n1_
             have BK304 := n2_
             have HB := n3_
             clear n0_ n1_ n2_ n3_
             (try clear hb)
             (try clear hb2)
             (try clear hk)
             (try clear hi)
             (try clear ho0)
             refine hK.out _ _ ⟨(blk_cell BK291.out 0).trans rfl, (blk_cell BK291.out 1).trans rfl, (blk_cell BK291.out 2).trans rfl, (blk_cell BK291.out 3).trans rfl⟩ (fun hHeld => ?_)
             clear hK K
             refine norm_ (a' := ?_) ?_ ?_
             rotate_left
             ·show Act.put _ (some 19) _ = _
              simp only [Act.put, List.setIfInBounds_toArray, List.set_cons_zero, List.set_cons_succ, i64_w, i32_w]
              rfl
             refine one_ (i := 3) (N := some 21) #[true, true, true, true, false, true, false] rfl rfl (by kernel_rfl) (by decide) (fun K hK => ?_)
             refine goes_ Try.func26 (by kernel_rfl) rfl #[.agg #[.int .i64 a1_0, .int .i64 a1_1, .int .i64 a1_2, .int .i64 a1_3]] (by rfl) rfl rfl (by (try simp only [List.map_toArray, List.map_cons, List.map_nil]); first | done | rfl | (simp only [List.length_drop, List.length_take]; rfl)) ?_
             with_reducible refine (laws_toBind.calls a1_0 a1_1 a1_2 a1_3 t296 t297 t298 t299 _ A7.out).mono ?_
             rintro e w37 ⟨rfl, hb⟩
             refine ⟨_, rfl, ?_⟩
             have n0_ := Aside0.mk (Kd.R_below (by (with_reducible repeat (first | apply Kd.R_alloc | apply Kd.R_drewN | apply Kd.R_drew)); exact HO295.out) hb)
             have n1_ := Aside0.mk (blkb hb BK291.out)
             have n2_ := Aside0.mk (blkb hb BK304.out)
             have n3_ := Aside0.mk (below_step (by repeat (first | (with_reducible first | exact HB.out | apply below_alloc | apply pw_below_drewN | apply below_drew1 | refine below_set ?_ GE291.out | refine below_set ?_ GE304.out) | exact HB.out)) hb)
             clear HO295
             clear BK291
             clear BK304
             clear HB
             have HO295 := n0_
             have BK291 := n1_
             have BK304 := n2_
             have HB := n3_
             clear n0_ n1_ n2_ n3_
             (try clear hb)
             (try clear hb2)
             (try clear hk)
             (try clear hi)
             obtain ⟨Ao38, co38, eo38⟩ := Kd.R_slice HO295.out
             (first | subst eo38 | (injection eo38 with f1_ f2_ f3_; have f4_ := f1_.symm; have f5_ := f3_.symm; clear f1_ f2_ f3_; subst f4_; subst f5_))
             refine hK.out _ _ ⟨(blk_cell BK291.out 0).trans rfl, (blk_cell BK291.out 1).trans rfl, (blk_cell BK291.out 2).trans rfl, (blk_cell BK291.out 3).trans rfl⟩ (fun hHeld => ?_)
             clear hK K
             refine norm_ (a' := ?_) ?_ ?_
             rotate_left
             ·show Act.put _ (some 21) _ = _
              simp only [Act.put, List.setIfInBounds_toArray, List.set_cons_zero, List.set_cons_succ, i64_w, i32_w]
              rfl
             refine one_ (i := 4) (N := some 22) #[true, true, true, true, true, true, false] rfl rfl (by kernel_rfl) (by decide) (fun K hK => ?_)
             refine goes_ Try.func24 (by kernel_rfl) rfl #[.slice Ao38 t293.length co38, .agg #[.int .i64 t296, .int .i64 t297, .int .i64 t298, .int .i64 t299]] (by rfl) rfl rfl (by (try simp only [List.map_toArray, List.map_cons, List.map_nil]); first | done | rfl | (simp only [List.length_drop, List.length_take]; rfl)) ?_
             with_reducible refine (spec_PutBind.calls k _ _ t293 t296 t297 t298 t299 t300 t301 _ ?side1 ?side2 A8.out).mono ?_
             (case side1 => repeat (first | exact (Kd.R_reads' HO295.out).2.2 | (with_reducible refine Kd.C_alloc ?_ _) | (with_reducible refine Kd.C_drewN ?_ _) | (with_reducible refine Kd.C_drew ?_)))
             (case side2 => exact (Kd.R_reads' HO295.out).2.1)
             rintro e w39 ⟨v302, rfl, ho0, hb⟩
             refine ⟨_, rfl, ?_⟩
             have n0_ := Aside0.mk (Kd.R_elder' (by (with_reducible repeat (first | apply Kd.R_alloc | apply Kd.R_drewN | apply Kd.R_drew)); exact HO295.out) (Kd.R_base ho0) hb)
             have n1_ := Aside0.mk (Kd.R_lower (Kd.R_new' ho0 (Kd.R_lt (by (with_reducible repeat (first | apply Kd.R_alloc | apply Kd.R_drewN | apply Kd.R_drew)); exact HO295.out))) (below_size (by repeat (first | (with_reducible first | exact HB.out | apply below_alloc | apply pw_below_drewN | apply below_drew1 | refine below_set ?_ GE291.out | refine below_set ?_ GE304.out) | exact HB.out))))
             have n2_ := Aside0.mk (blkb hb BK291.out)
             have n3_ := Aside0.mk (blkb hb BK304.out)
             have n4_ := Aside0.mk (below_step (by repeat (first | (with_reducible first | exact HB.out | apply below_alloc | apply pw_below_drewN | apply below_drew1 | refine below_set ?_ GE291.out | refine below_set ?_ GE304.out) | exact HB.out)) hb)
             clear HO295
             clear BK291
             clear BK304
             clear HB
             have HO295 := n0_
             have HO303 := n1_
             have BK291 := n2_
             have BK304 := n3_
             have HB := n4_
             clear n0_ n1_ n2_ n3_ n4_
             (try clear hb)
             (try clear hb2)
             (try clear hk)
             (try clear hi)
             (try clear ho0)
             refine hK.out _ _ ⟨(blk_cell BK291.out 0).trans rfl, (blk_cell BK291.out 1).trans rfl, (blk_cell BK291.out 2).trans rfl, (blk_cell BK291.out 3).trans rfl⟩ (fun hHeld => ?_)
             clear hK K
             refine norm_ (a' := ?_) ?_ ?_
             rotate_left
             ·show Act.put _ (some 22) _ = _
              simp only [Act.put, List.setIfInBounds_toArray, List.set_cons_zero, List.set_cons_succ, i64_w, i32_w]
              rfl
             exact norm_ (by simp only [putAll, Act.put, List.setIfInBounds_toArray, List.set_cons_zero, List.set_cons_succ]) (hCont (.slice Ao38 t293.length co38, v302, gb304) _ ⟨hHeld, (by (with_reducible repeat (first | apply Kd.R_alloc | apply Kd.R_drewN | apply Kd.R_drew)); exact Kd.R_mono HO295.out (fun _ hk => hk.2)), (by (with_reducible repeat (first | apply Kd.R_alloc | apply Kd.R_drewN | apply Kd.R_drew)); exact Kd.R_mono HO303.out (fun _ hk => hk.2)), (by (with_reducible repeat (first | refine blk_drewN ?_ _ | refine blk_drew ?_ | refine blk_alloc ?_ _)); exact BK291.out), (by (with_reducible repeat (first | refine blk_drewN ?_ _ | refine blk_drew ?_ | refine blk_alloc ?_ _)); exact BK304.out), GW304.out, GE304.out, NB291_304.out, NB304_291.out, (by repeat (first | (with_reducible first | exact HB.out | apply below_alloc | apply pw_below_drewN | apply below_drew1 | refine below_set ?_ GE291.out | refine below_set ?_ GE304.out) | exact HB.out))⟩)
           rintro ⟨v294, v302, gb304⟩ w40 ⟨hS_, h0_, h1_, h2_, h3_, h4_, h5_, h6_, h7_, h8_⟩
           have n0_ : Aside0 (Kd.R k64 64 w40 w.heap.size (fun k_ => some k_ ≠ (v302 : Value).ownBlock) v294 t293) := ⟨h0_⟩
           have n1_ : Aside0 (Kd.R k64 64 w40 w.heap.size (fun k_ => some k_ ≠ (v294 : Value).ownBlock) v302 t301) := ⟨h1_⟩
           have n2_ : Aside0 (w40.heap[gb291]? = some (.cells #[.int .i64 a1_0, .int .i64 a1_1, .int .i64 a1_2, .int .i64 a1_3] 55 (0, 0))) := ⟨h2_⟩
           have n3_ : Aside0 (w40.heap[gb304]? = some (.cells #[.int .i64 0, .slice none 0 0] 59 (0, 0))) := ⟨h3_⟩
           have n4_ : Aside0 (w.heap.size ≤ gb304) := ⟨h4_⟩
           have n5_ : Aside0 (w.heap.size ≤ gb304) := ⟨h5_⟩
           have n6_ : Aside0 (gb291 ≠ gb304) := ⟨h6_⟩
           have n7_ : Aside0 (gb304 ≠ gb291) := ⟨h7_⟩
           have n8_ : Aside0 (Below w.heap.size w w40) := ⟨h8_⟩
           clear BK291
           clear HB
           clear h0_ h1_ h2_ h3_ h4_ h5_ h6_ h7_ h8_
           have HO295 := n0_
           have HO303 := n1_
           have BK291 := n2_
           have BK304 := n3_
           have GW304 := n4_
           have GE304 := n5_
           have NB291_304 := n6_
           have NB304_291 := n7_
           have HB := n8_
           clear n0_ n1_ n2_ n3_ n4_ n5_ n6_ n7_ n8_
           have hHeld : w40.cell? ⟨gb291, 0, none⟩ = some (.int .i64 a1_0) ∧ w40.cell? ⟨gb291, 1, none⟩ = some (.int .i64 a1_1) ∧ w40.cell? ⟨gb291, 2, none⟩ = some (.int .i64 a1_2) ∧ w40.cell? ⟨gb291, 3, none⟩ = some (.int .i64 a1_3) := hS_
           obtain ⟨Ao42, co42, eo42⟩ := Kd.R_slice HO303.out
           (first | subst eo42 | (injection eo42 with f1_ f2_ f3_; have f4_ := f1_.symm; have f5_ := f3_.symm; clear f1_ f2_ f3_; subst f4_; subst f5_))
           refine norm_ (a' := ?_) ?_ ?_
           rotate_left
           ·simp only [putAll, Act.put, List.setIfInBounds_toArray, List.set_cons_zero, List.set_cons_succ]
            rfl
           refine one_ (i := 6) (N := none) #[true, true, true, true, true, true, true] rfl rfl (by kernel_rfl) (by decide) (fun K hK => ?_)
           have hs41 : w40.cell? ⟨gb304, 0, none⟩ = some (.int .i64 0) := (blk_cell BK304.out 0).trans rfl
           have hfs41 := blk_frozen BK304.out 0
           have hns41_0 := NB291_304.out
           have hms41_0 := NB304_291.out
           have hs43 : w40.cell? ⟨gb304, 1, none⟩ = some (.slice none 0 0) := (blk_cell BK304.out 1).trans rfl
           have hfs43 := blk_frozen BK304.out 1
           have hns43_0 := NB291_304.out
           have hms43_0 := NB304_291.out
           refine skip_ (w1 := ?_) (by rfl) rfl ?_ ?_
           rotate_left
           ·go_simp
            rfl
           refine hK.out _ _ ⟨((cell_far (p := ⟨gb304, _, none⟩) NB291_304.out _).trans (((cell_far (p := ⟨gb304, _, none⟩) NB291_304.out _).trans (hHeld.1)))), ((cell_far (p := ⟨gb304, _, none⟩) NB291_304.out _).trans (((cell_far (p := ⟨gb304, _, none⟩) NB291_304.out _).trans (hHeld.2.1)))), ((cell_far (p := ⟨gb304, _, none⟩) NB291_304.out _).trans (((cell_far (p := ⟨gb304, _, none⟩) NB291_304.out _).trans (hHeld.2.2.1)))), ((cell_far (p := ⟨gb304, _, none⟩) NB291_304.out _).trans (((cell_far (p := ⟨gb304, _, none⟩) NB291_304.out _).trans (hHeld.2.2.2))))⟩ (fun hHeld => ?_)
           clear hK K
           refine done_ (by kernel_rfl) ?_
           try go_wp2_with (first | ((with_reducible refine gate_callee (f := 25) rfl ?_); refine goesL_ (some 24) rfl rfl Try.func25 (by kernel_rfl) rfl #[.slice A0 l0.length c0] rfl (by (try simp only [List.map_toArray, List.map_cons, List.map_nil]); first | done | rfl | (simp only [List.length_drop, List.length_take]; rfl)) ?_; (with_reducible refine (laws_toBindS.calls k _ _ l0 t305 _ ?side1 ?side2 A9.out).mono ?_); (case side1 => exact Kd.C_below HR0.out (by repeat (first | (with_reducible first | exact HB.out | apply below_alloc | apply pw_below_drewN | apply below_drew1 | refine below_set ?_ GE291.out | refine below_set ?_ GE304.out) | exact HB.out))); (case side2 => exact HC0.out); rintro e w44 ⟨v306, rfl, ho0, hb⟩; refine ⟨_, rfl, ?_⟩; have n0_ := Aside0.mk (Kd.R_elder' (by (with_reducible repeat (first | apply Kd.R_alloc | apply Kd.R_drewN | apply Kd.R_drew)); exact (Kd.R_mono (Kd.R_far (p := ⟨gb304, 1, none⟩) (Kd.R_far (p := ⟨gb304, 0, none⟩) (Kd.R_types HO295.out BK304.out (by decide)) (fun _ hk => hk.2) (.int .i64 t300)) (fun _ hk => hk.2) (.slice Ao42 t301.length co42)) (fun _ h_ => h_.1))) (Kd.R_base ho0) hb); have n1_ := Aside0.mk (Kd.R_elder' (by (with_reducible repeat (first | apply Kd.R_alloc | apply Kd.R_drewN | apply Kd.R_drew)); exact (Kd.R_mono (Kd.R_far (p := ⟨gb304, 1, none⟩) (Kd.R_far (p := ⟨gb304, 0, none⟩) (Kd.R_types HO303.out BK304.out (by decide)) (fun _ hk => hk.2) (.int .i64 t300)) (fun _ hk => hk.2) (.slice Ao42 t301.length co42)) (fun _ h_ => h_.1))) (Kd.R_base ho0) hb); have n2_ := Aside0.mk (Kd.R_lower (Kd.R_new' (Kd.R_new' ho0 (Kd.R_lt (by (with_reducible repeat (first | apply Kd.R_alloc | apply Kd.R_drewN | apply Kd.R_drew)); exact (Kd.R_mono (Kd.R_far (p := ⟨gb304, 1, none⟩) (Kd.R_far (p := ⟨gb304, 0, none⟩) (Kd.R_types HO295.out BK304.out (by decide)) (fun _ hk => hk.2) (.int .i64 t300)) (fun _ hk => hk.2) (.slice Ao42 t301.length co42)) (fun _ h_ => h_.1))))) (Kd.R_lt (by (with_reducible repeat (first | apply Kd.R_alloc | apply Kd.R_drewN | apply Kd.R_drew)); exact (Kd.R_mono (Kd.R_far (p := ⟨gb304, 1, none⟩) (Kd.R_far (p := ⟨gb304, 0, none⟩) (Kd.R_types HO303.out BK304.out (by decide)) (fun _ hk => hk.2) (.int .i64 t300)) (fun _ hk => hk.2) (.slice Ao42 t301.length co42)) (fun _ h_ => h_.1))))) (below_size (by repeat (first | (with_reducible first | exact HB.out | apply below_alloc | apply pw_below_drewN | apply below_drew1 | refine below_set ?_ GE291.out | refine below_set ?_ GE304.out) | exact HB.out)))); have n3_ := Aside0.mk (blk_below (g := gb291) (o := .cells #[.int .i64 a1_0, .int .i64 a1_1, .int .i64 a1_2, .int .i64 a1_3] 55 (0, 0)) (by (with_reducible repeat (first | refine blk_drewN ?_ _ | refine blk_drew ?_ | refine blk_alloc ?_ _)); refine blk_far ?_ NB291_304.out _; (with_reducible repeat (first | refine blk_drewN ?_ _ | refine blk_drew ?_ | refine blk_alloc ?_ _)); refine blk_far ?_ NB291_304.out _; (with_reducible repeat (first | refine blk_drewN ?_ _ | refine blk_drew ?_ | refine blk_alloc ?_ _)); exact BK291.out) hb); have n4_ := Aside0.mk (blk_below (g := gb304) (o := .cells #[.int .i64 t300, .slice Ao42 t301.length co42] 59 (0, 0)) (by (with_reducible repeat (first | refine blk_drewN ?_ _ | refine blk_drew ?_ | refine blk_alloc ?_ _)); refine blk_put (cs := #[.int .i64 t300, .slice none 0 0]) ?_ 1 _ rfl; (with_reducible repeat (first | refine blk_drewN ?_ _ | refine blk_drew ?_ | refine blk_alloc ?_ _)); refine blk_put (cs := #[.int .i64 0, .slice none 0 0]) ?_ 0 _ rfl; (with_reducible repeat (first | refine blk_drewN ?_ _ | refine blk_drew ?_ | refine blk_alloc ?_ _)); exact BK304.out) hb); have n5_ := Aside0.mk (below_step (by repeat (first | (with_reducible first | exact HB.out | apply below_alloc | apply pw_below_drewN | apply below_drew1 | refine below_set ?_ GE291.out | refine below_set ?_ GE304.out) | exact HB.out)) hb); clear HO295; clear HO303; clear BK291; clear BK304; clear HB; have HO295 := n0_; have HO303 := n1_; have HO307 := n2_; have BK291 := n3_; have BK304 := n4_; have HB := n5_; clear n0_ n1_ n2_ n3_ n4_ n5_; (try clear hb); (try clear hb2); (try clear hk); (try clear hi); (try clear ho0); have hnb45 := NB291_304.out; have hnc45 := NB304_291.out; have hcz46_0 : w44.cell? ⟨gb291, 0, none⟩ = some (.int .i64 a1_0) := (blk_cell BK291.out 0).trans rfl; have hcz46_1 : w44.cell? ⟨gb291, 1, none⟩ = some (.int .i64 a1_1) := (blk_cell BK291.out 1).trans rfl; have hcz46_2 : w44.cell? ⟨gb291, 2, none⟩ = some (.int .i64 a1_2) := (blk_cell BK291.out 2).trans rfl; have hcz46_3 : w44.cell? ⟨gb291, 3, none⟩ = some (.int .i64 a1_3) := (blk_cell BK291.out 3).trans rfl; have hfz46_0 := blk_frozen BK291.out 0; have hfz46_1 := blk_frozen BK291.out 1; have hfz46_2 := blk_frozen BK291.out 2; have hfz46_3 := blk_frozen BK291.out 3) | ((with_reducible refine gate_callee (f := 26) rfl ?_); refine goesL_ (some 27) rfl rfl Try.func26 (by kernel_rfl) rfl #[.agg #[.int .i64 a1_0, .int .i64 a1_1, .int .i64 a1_2, .int .i64 a1_3]] rfl (by (try simp only [List.map_toArray, List.map_cons, List.map_nil]); first | done | rfl | (simp only [List.length_drop, List.length_take]; rfl)) ?_; (with_reducible refine (laws_toBind.calls a1_0 a1_1 a1_2 a1_3 t308 t309 t310 t311 _ A10.out).mono ?_); rintro e w47 ⟨rfl, hb⟩; refine ⟨_, rfl, ?_⟩; have n0_ := Aside0.mk (Kd.R_below (by (with_reducible repeat (first | apply Kd.R_alloc | apply Kd.R_drewN | apply Kd.R_drew)); exact HO295.out) hb); have n1_ := Aside0.mk (Kd.R_below (by (with_reducible repeat (first | apply Kd.R_alloc | apply Kd.R_drewN | apply Kd.R_drew)); exact HO303.out) hb); have n2_ := Aside0.mk (Kd.R_below (by (with_reducible repeat (first | apply Kd.R_alloc | apply Kd.R_drewN | apply Kd.R_drew)); exact HO307.out) hb); have n3_ := Aside0.mk (blkb hb BK291.out); have n4_ := Aside0.mk (blkb hb BK304.out); have n5_ := Aside0.mk (below_step (by repeat (first | (with_reducible first | exact HB.out | apply below_alloc | apply pw_below_drewN | apply below_drew1 | refine below_set ?_ GE291.out | refine below_set ?_ GE304.out) | exact HB.out)) hb); clear HO295; clear HO303; clear HO307; clear BK291; clear BK304; clear HB; have HO295 := n0_; have HO303 := n1_; have HO307 := n2_; have BK291 := n3_; have BK304 := n4_; have HB := n5_; clear n0_ n1_ n2_ n3_ n4_ n5_; (try clear hb); (try clear hb2); (try clear hk); (try clear hi); obtain ⟨Ao48, co48, eo48⟩ := Kd.R_slice HO307.out; subst eo48) | ((with_reducible refine gate_callee (f := 27) rfl ?_); refine goesL_ (some 28) rfl rfl Try.func27 (by kernel_rfl) rfl #[.slice Ao48 t305.length co48, .agg #[.int .i64 t308, .int .i64 t309, .int .i64 t310, .int .i64 t311]] rfl (by (try simp only [List.map_toArray, List.map_cons, List.map_nil]); first | done | rfl | (simp only [List.length_drop, List.length_take]; rfl)) ?_; (with_reducible refine (impl_PutBind.calls k _ _ t305 t308 t309 t310 t311 t312 t313 _ ?side1 ?side2 A11.out).mono ?_); (case side1 => repeat (first | exact (Kd.R_reads' HO307.out).2.2 | (with_reducible refine Kd.C_alloc ?_ _) | (with_reducible refine Kd.C_drewN ?_ _) | (with_reducible refine Kd.C_drew ?_))); (case side2 => exact (Kd.R_reads' HO307.out).2.1); rintro e w49 ⟨v314, rfl, ho0, hb⟩; refine ⟨_, rfl, ?_⟩; have n0_ := Aside0.mk (Kd.R_elder' (by (with_reducible repeat (first | apply Kd.R_alloc | apply Kd.R_drewN | apply Kd.R_drew)); exact HO295.out) (Kd.R_base ho0) hb); have n1_ := Aside0.mk (Kd.R_elder' (by (with_reducible repeat (first | apply Kd.R_alloc | apply Kd.R_drewN | apply Kd.R_drew)); exact HO303.out) (Kd.R_base ho0) hb); have n2_ := Aside0.mk (Kd.R_elder' (by (with_reducible repeat (first | apply Kd.R_alloc | apply Kd.R_drewN | apply Kd.R_drew)); exact HO307.out) (Kd.R_base ho0) hb); have n3_ := Aside0.mk (Kd.R_lower (Kd.R_new' (Kd.R_new' (Kd.R_new' ho0 (Kd.R_lt (by (with_reducible repeat (first | apply Kd.R_alloc | apply Kd.R_drewN | apply Kd.R_drew)); exact HO295.out))) (Kd.R_lt (by (with_reducible repeat (first | apply Kd.R_alloc | apply Kd.R_drewN | apply Kd.R_drew)); exact HO303.out))) (Kd.R_lt (by (with_reducible repeat (first | apply Kd.R_alloc | apply Kd.R_drewN | apply Kd.R_drew)); exact HO307.out))) (below_size (by repeat (first | (with_reducible first | exact HB.out | apply below_alloc | apply pw_below_drewN | apply below_drew1 | refine below_set ?_ GE291.out | refine below_set ?_ GE304.out) | exact HB.out)))); have n4_ := Aside0.mk (blkb hb BK291.out); have n5_ := Aside0.mk (blkb hb BK304.out); have n6_ := Aside0.mk (below_step (by repeat (first | (with_reducible first | exact HB.out | apply below_alloc | apply pw_below_drewN | apply below_drew1 | refine below_set ?_ GE291.out | refine below_set ?_ GE304.out) | exact HB.out)) hb); clear HO295; clear HO303; clear HO307; clear BK291; clear BK304; clear HB; have HO295 := n0_; have HO303 := n1_; have HO307 := n2_; have HO315 := n3_; have BK291 := n4_; have BK304 := n5_; have HB := n6_; clear n0_ n1_ n2_ n3_ n4_ n5_ n6_; (try clear hb); (try clear hb2); (try clear hk); (try clear hi); (try clear ho0)) | ((with_reducible refine gate_dst (N := 8) rfl ?_); refine box_event ?hg (N := 8) ?hd (cs := #[.int .i64 0, .slice none 0 0]) (t := 59) ?hr ?_; (case hd => rfl); (case hg => rfl); (case hr => first | (go_simp; done) | (go_simp; rfl)); intro gb316 hg w50 hbox hb; have n0_ := Aside0.mk (Kd.R_below (by (with_reducible repeat (first | apply Kd.R_alloc | apply Kd.R_drewN | apply Kd.R_drew)); exact HO295.out) hb); have n1_ := Aside0.mk (Kd.R_below (by (with_reducible repeat (first | apply Kd.R_alloc | apply Kd.R_drewN | apply Kd.R_drew)); exact HO303.out) hb); have n2_ := Aside0.mk (Kd.R_below (by (with_reducible repeat (first | apply Kd.R_alloc | apply Kd.R_drewN | apply Kd.R_drew)); exact HO307.out) hb); have n3_ := Aside0.mk (Kd.R_below (by (with_reducible repeat (first | apply Kd.R_alloc | apply Kd.R_drewN | apply Kd.R_drew)); exact HO315.out) hb); have n4_ := Aside0.mk (blkb hb BK291.out); have n5_ := Aside0.mk (blkb hb BK304.out); have n6_ := Aside0.mk (below_step (by repeat (first | (with_reducible first | exact HB.out | apply below_alloc | apply pw_below_drewN | apply below_drew1 | refine below_set ?_ GE291.out | refine below_set ?_ GE304.out) | exact HB.out)) hb); have n7_ := Aside0.mk (hbox); have n8_ := Aside0.mk ((by rw [hg]; exact (below_size (by repeat (first | (with_reducible first | exact HB.out | apply below_alloc | apply pw_below_drewN | apply below_drew1 | refine below_set ?_ GE291.out | refine below_set ?_ GE304.out) | exact HB.out))) : w.heap.size ≤ gb316)); have n9_ := Aside0.mk ((by rw [hg]; exact (below_size (by repeat (first | (with_reducible first | exact HB.out | apply below_alloc | apply pw_below_drewN | apply below_drew1 | refine below_set ?_ GE291.out | refine below_set ?_ GE304.out) | exact HB.out))) : w.heap.size ≤ gb316)); have n10_ := Aside0.mk ((blkn hg BK291.out)); have n11_ := Aside0.mk ((blkm hg BK291.out)); have n12_ := Aside0.mk ((blkn hg BK304.out)); have n13_ := Aside0.mk ((blkm hg BK304.out)); clear HO295; clear HO303; clear HO307; clear HO315; clear BK291; clear BK304; clear HB; have HO295 := n0_; have HO303 := n1_; have HO307 := n2_; have HO315 := n3_; have BK291 := n4_; have BK304 := n5_; have HB := n6_; have BK316 := n7_; have GW316 := n8_; have GE316 := n9_; have NB291_316 := n10_; have NB316_291 := n11_; have NB304_316 := n12_; have NB316_304 := n13_; clear n0_ n1_ n2_ n3_ n4_ n5_ n6_ n7_ n8_ n9_ n10_ n11_ n12_ n13_; clear hb hbox hg; have hnb51 := NB316_291.out; have hnc51 := NB291_316.out; have hnb52 := NB316_304.out; have hnc52 := NB304_316.out; have hcz53_0 : w50.cell? ⟨gb316, 0, none⟩ = some (.int .i64 0) := (blk_cell BK316.out 0).trans rfl; have hcz53_1 : w50.cell? ⟨gb316, 1, none⟩ = some (.slice none 0 0) := (blk_cell BK316.out 1).trans rfl; have hfz53_0 := blk_frozen BK316.out 0; have hfz53_1 := blk_frozen BK316.out 1; obtain ⟨Ao54, co54, eo54⟩ := Kd.R_slice HO315.out; subst eo54; have hcz55_0 : w50.cell? ⟨gb304, 0, none⟩ = some (.int .i64 t300) := (blk_cell BK304.out 0).trans rfl; have hcz55_1 : w50.cell? ⟨gb304, 1, none⟩ = some (.slice Ao42 t301.length co42) := (blk_cell BK304.out 1).trans rfl; have hfz55_0 := blk_frozen BK304.out 0; have hfz55_1 := blk_frozen BK304.out 1) | ((with_reducible refine gate_callee (f := 28) rfl ?_); refine goesL_ (some 31) rfl rfl Try.func28 (by kernel_rfl) rfl #[.agg #[.int .i64 t312, .slice Ao54 t313.length co54], .agg #[.int .i64 t300, .slice Ao42 t301.length co42]] rfl (by (try simp only [List.map_toArray, List.map_cons, List.map_nil]); first | done | rfl | (simp only [List.length_drop, List.length_take]; rfl)) ?_; (with_reducible refine (laws_eqBindsResult.calls k t312 _ _ t313 t300 _ _ t301  _ ?side1 ?side2 ?side3 ?side4 A12.out).mono ?_); (case side1 => refine (Kd.R_reads' (e := 64) (base := w.heap.size) (ok := fun k_ => (((True ∧ some k_ ≠ (v294 : Value).ownBlock) ∧ some k_ ≠ (.slice Ao42 t301.length co42 : Value).ownBlock) ∧ some k_ ≠ (.slice Ao48 t305.length co48 : Value).ownBlock)) (n := t313.length) (c := co54) ?_).2.2; exact (by (with_reducible repeat (first | apply Kd.R_alloc | apply Kd.R_drewN | apply Kd.R_drew)); exact (Kd.R_mono (Kd.R_far (p := ⟨gb316, 1, none⟩) (Kd.R_far (p := ⟨gb316, 0, none⟩) (Kd.R_types HO315.out BK316.out (by decide)) (fun _ hk => hk.2) (.int .i64 t312)) (fun _ hk => hk.2) (.slice Ao54 t313.length co54)) (fun _ h_ => h_.1)))); (case side2 => exact (Kd.R_reads' HO315.out).2.1); (case side3 => refine (Kd.R_reads' (e := 64) (base := w.heap.size) (ok := fun k_ => ((some k_ ≠ (v294 : Value).ownBlock ∧ some k_ ≠ (.slice Ao48 t305.length co48 : Value).ownBlock) ∧ some k_ ≠ (.slice Ao54 t313.length co54 : Value).ownBlock)) (n := t301.length) (c := co42) ?_).2.2; exact (by (with_reducible repeat (first | apply Kd.R_alloc | apply Kd.R_drewN | apply Kd.R_drew)); exact (Kd.R_mono (Kd.R_far (p := ⟨gb316, 1, none⟩) (Kd.R_far (p := ⟨gb316, 0, none⟩) (Kd.R_types HO303.out BK316.out (by decide)) (fun _ hk => hk.2) (.int .i64 t312)) (fun _ hk => hk.2) (.slice Ao54 t313.length co54)) (fun _ h_ => h_.1)))); (case side4 => exact (Kd.R_reads' HO303.out).2.1); rintro e w56 ⟨rfl, hb⟩; refine ⟨_, rfl, ?_⟩; have n0_ := Aside0.mk (Kd.R_below (by (with_reducible repeat (first | apply Kd.R_alloc | apply Kd.R_drewN | apply Kd.R_drew)); exact (Kd.R_mono (Kd.R_far (p := ⟨gb316, 1, none⟩) (Kd.R_far (p := ⟨gb316, 0, none⟩) (Kd.R_types HO295.out BK316.out (by decide)) (fun _ hk => hk.2) (.int .i64 t312)) (fun _ hk => hk.2) (.slice Ao54 t313.length co54)) (fun _ h_ => h_.1))) hb); have n1_ := Aside0.mk (Kd.R_below (by (with_reducible repeat (first | apply Kd.R_alloc | apply Kd.R_drewN | apply Kd.R_drew)); exact (Kd.R_mono (Kd.R_far (p := ⟨gb316, 1, none⟩) (Kd.R_far (p := ⟨gb316, 0, none⟩) (Kd.R_types HO303.out BK316.out (by decide)) (fun _ hk => hk.2) (.int .i64 t312)) (fun _ hk => hk.2) (.slice Ao54 t313.length co54)) (fun _ h_ => h_.1))) hb); have n2_ := Aside0.mk (Kd.R_below (by (with_reducible repeat (first | apply Kd.R_alloc | apply Kd.R_drewN | apply Kd.R_drew)); exact (Kd.R_mono (Kd.R_far (p := ⟨gb316, 1, none⟩) (Kd.R_far (p := ⟨gb316, 0, none⟩) (Kd.R_types HO307.out BK316.out (by decide)) (fun _ hk => hk.2) (.int .i64 t312)) (fun _ hk => hk.2) (.slice Ao54 t313.length co54)) (fun _ h_ => h_.1))) hb); have n3_ := Aside0.mk (Kd.R_below (by (with_reducible repeat (first | apply Kd.R_alloc | apply Kd.R_drewN | apply Kd.R_drew)); exact (Kd.R_mono (Kd.R_far (p := ⟨gb316, 1, none⟩) (Kd.R_far (p := ⟨gb316, 0, none⟩) (Kd.R_types HO315.out BK316.out (by decide)) (fun _ hk => hk.2) (.int .i64 t312)) (fun _ hk => hk.2) (.slice Ao54 t313.length co54)) (fun _ h_ => h_.1))) hb); have n4_ := Aside0.mk (blk_below (g := gb291) (o := .cells #[.int .i64 a1_0, .int .i64 a1_1, .int .i64 a1_2, .int .i64 a1_3] 55 (0, 0)) (by (with_reducible repeat (first | refine blk_drewN ?_ _ | refine blk_drew ?_ | refine blk_alloc ?_ _)); refine blk_far ?_ NB291_316.out _; (with_reducible repeat (first | refine blk_drewN ?_ _ | refine blk_drew ?_ | refine blk_alloc ?_ _)); refine blk_far ?_ NB291_316.out _; (with_reducible repeat (first | refine blk_drewN ?_ _ | refine blk_drew ?_ | refine blk_alloc ?_ _)); exact BK291.out) hb); have n5_ := Aside0.mk (blk_below (g := gb304) (o := .cells #[.int .i64 t300, .slice Ao42 t301.length co42] 59 (0, 0)) (by (with_reducible repeat (first | refine blk_drewN ?_ _ | refine blk_drew ?_ | refine blk_alloc ?_ _)); refine blk_far ?_ NB304_316.out _; (with_reducible repeat (first | refine blk_drewN ?_ _ | refine blk_drew ?_ | refine blk_alloc ?_ _)); refine blk_far ?_ NB304_316.out _; (with_reducible repeat (first | refine blk_drewN ?_ _ | refine blk_drew ?_ | refine blk_alloc ?_ _)); exact BK304.out) hb); have n6_ := Aside0.mk (blk_below (g := gb316) (o := .cells #[.int .i64 t312, .slice Ao54 t313.length co54] 59 (0, 0)) (by (with_reducible repeat (first | refine blk_drewN ?_ _ | refine blk_drew ?_ | refine blk_alloc ?_ _)); refine blk_put (cs := #[.int .i64 t312, .slice none 0 0]) ?_ 1 _ rfl; (with_reducible repeat (first | refine blk_drewN ?_ _ | refine blk_drew ?_ | refine blk_alloc ?_ _)); refine blk_put (cs := #[.int .i64 0, .slice none 0 0]) ?_ 0 _ rfl; (with_reducible repeat (first | refine blk_drewN ?_ _ | refine blk_drew ?_ | refine blk_alloc ?_ _)); exact BK316.out) hb); have n7_ := Aside0.mk (below_step (by repeat (first | (with_reducible first | exact HB.out | apply below_alloc | apply pw_below_drewN | apply below_drew1 | refine below_set ?_ GE291.out | refine below_set ?_ GE304.out | refine below_set ?_ GE316.out) | exact HB.out)) hb); clear HO295; clear HO303; clear HO307; clear HO315; clear BK291; clear BK304; clear BK316; clear HB; have HO295 := n0_; have HO303 := n1_; have HO307 := n2_; have HO315 := n3_; have BK291 := n4_; have BK304 := n5_; have BK316 := n6_; have HB := n7_; clear n0_ n1_ n2_ n3_ n4_ n5_ n6_ n7_; (try clear hb); (try clear hb2); (try clear hk); (try clear hi)) | ((with_reducible refine gate_callee (f := 25) rfl ?_); refine goesL_ (some 35) rfl rfl Try.func25 (by kernel_rfl) rfl #[.slice A0 l0.length c0] rfl (by (try simp only [List.map_toArray, List.map_cons, List.map_nil]); first | done | rfl | (simp only [List.length_drop, List.length_take]; rfl)) ?_; (with_reducible refine (laws_toBindS.calls k _ _ l0 t318 _ ?side1 ?side2 A14.out).mono ?_); (case side1 => repeat (first | exact (Kd.C_below HR0.out HB.out) | (with_reducible refine Kd.C_alloc ?_ _) | (with_reducible refine Kd.C_drewN ?_ _) | (with_reducible refine Kd.C_drew ?_))); (case side2 => exact HC0.out); rintro e w57 ⟨v319, rfl, ho0, hb⟩; refine ⟨_, rfl, ?_⟩; have n0_ := Aside0.mk (Kd.R_elder' (by (with_reducible repeat (first | apply Kd.R_alloc | apply Kd.R_drewN | apply Kd.R_drew)); exact HO295.out) (Kd.R_base ho0) hb); have n1_ := Aside0.mk (Kd.R_elder' (by (with_reducible repeat (first | apply Kd.R_alloc | apply Kd.R_drewN | apply Kd.R_drew)); exact HO303.out) (Kd.R_base ho0) hb); have n2_ := Aside0.mk (Kd.R_elder' (by (with_reducible repeat (first | apply Kd.R_alloc | apply Kd.R_drewN | apply Kd.R_drew)); exact HO307.out) (Kd.R_base ho0) hb); have n3_ := Aside0.mk (Kd.R_elder' (by (with_reducible repeat (first | apply Kd.R_alloc | apply Kd.R_drewN | apply Kd.R_drew)); exact HO315.out) (Kd.R_base ho0) hb); have n4_ := Aside0.mk (Kd.R_lower (Kd.R_new' (Kd.R_new' (Kd.R_new' (Kd.R_new' ho0 (Kd.R_lt (by (with_reducible repeat (first | apply Kd.R_alloc | apply Kd.R_drewN | apply Kd.R_drew)); exact HO295.out))) (Kd.R_lt (by (with_reducible repeat (first | apply Kd.R_alloc | apply Kd.R_drewN | apply Kd.R_drew)); exact HO303.out))) (Kd.R_lt (by (with_reducible repeat (first | apply Kd.R_alloc | apply Kd.R_drewN | apply Kd.R_drew)); exact HO307.out))) (Kd.R_lt (by (with_reducible repeat (first | apply Kd.R_alloc | apply Kd.R_drewN | apply Kd.R_drew)); exact HO315.out))) (below_size (by repeat (first | (with_reducible first | exact HB.out | apply below_alloc | apply pw_below_drewN | apply below_drew1 | refine below_set ?_ GE291.out | refine below_set ?_ GE304.out | refine below_set ?_ GE316.out) | exact HB.out)))); have n5_ := Aside0.mk (blkb hb BK291.out); have n6_ := Aside0.mk (blkb hb BK304.out); have n7_ := Aside0.mk (blkb hb BK316.out); have n8_ := Aside0.mk (below_step (by repeat (first | (with_reducible first | exact HB.out | apply below_alloc | apply pw_below_drewN | apply below_drew1 | refine below_set ?_ GE291.out | refine below_set ?_ GE304.out | refine below_set ?_ GE316.out) | exact HB.out)) hb); clear HO295; clear HO303; clear HO307; clear HO315; clear BK291; clear BK304; clear BK316; clear HB; have HO295 := n0_; have HO303 := n1_; have HO307 := n2_; have HO315 := n3_; have HO320 := n4_; have BK291 := n5_; have BK304 := n6_; have BK316 := n7_; have HB := n8_; clear n0_ n1_ n2_ n3_ n4_ n5_ n6_ n7_ n8_; (try clear hb); (try clear hb2); (try clear hk); (try clear hi); (try clear ho0); obtain ⟨Ao58, co58, eo58⟩ := Kd.R_slice HO320.out; subst eo58) | ((with_reducible refine gate_callee (f := 29) rfl ?_); refine goesL_ (some 36) rfl rfl Try.func29 (by kernel_rfl) rfl #[.slice Ao48 t305.length co48, .slice Ao58 t318.length co58] rfl (by (try simp only [List.map_toArray, List.map_cons, List.map_nil]); first | done | rfl | (simp only [List.length_drop, List.length_take]; rfl)) ?_; (with_reducible refine (laws_eqBindS.calls k _ _ t305 _ _ t318  _ ?side1 ?side2 ?side3 ?side4 A15.out).mono ?_); (case side1 => repeat (first | exact (Kd.R_reads' HO307.out).2.2 | (with_reducible refine Kd.C_alloc ?_ _) | (with_reducible refine Kd.C_drewN ?_ _) | (with_reducible refine Kd.C_drew ?_))); (case side2 => exact (Kd.R_reads' HO307.out).2.1); (case side3 => repeat (first | exact (Kd.R_reads' HO320.out).2.2 | (with_reducible refine Kd.C_alloc ?_ _) | (with_reducible refine Kd.C_drewN ?_ _) | (with_reducible refine Kd.C_drew ?_))); (case side4 => exact (Kd.R_reads' HO320.out).2.1); rintro e w59 ⟨rfl, hb⟩; refine ⟨_, rfl, ?_⟩; have n0_ := Aside0.mk (Kd.R_below (by (with_reducible repeat (first | apply Kd.R_alloc | apply Kd.R_drewN | apply Kd.R_drew)); exact HO295.out) hb); have n1_ := Aside0.mk (Kd.R_below (by (with_reducible repeat (first | apply Kd.R_alloc | apply Kd.R_drewN | apply Kd.R_drew)); exact HO303.out) hb); have n2_ := Aside0.mk (Kd.R_below (by (with_reducible repeat (first | apply Kd.R_alloc | apply Kd.R_drewN | apply Kd.R_drew)); exact HO307.out) hb); have n3_ := Aside0.mk (Kd.R_below (by (with_reducible repeat (first | apply Kd.R_alloc | apply Kd.R_drewN | apply Kd.R_drew)); exact HO315.out) hb); have n4_ := Aside0.mk (Kd.R_below (by (with_reducible repeat (first | apply Kd.R_alloc | apply Kd.R_drewN | apply Kd.R_drew)); exact HO320.out) hb); have n5_ := Aside0.mk (blkb hb BK291.out); have n6_ := Aside0.mk (blkb hb BK304.out); have n7_ := Aside0.mk (blkb hb BK316.out); have n8_ := Aside0.mk (below_step (by repeat (first | (with_reducible first | exact HB.out | apply below_alloc | apply pw_below_drewN | apply below_drew1 | refine below_set ?_ GE291.out | refine below_set ?_ GE304.out | refine below_set ?_ GE316.out) | exact HB.out)) hb); clear HO295; clear HO303; clear HO307; clear HO315; clear HO320; clear BK291; clear BK304; clear BK316; clear HB; have HO295 := n0_; have HO303 := n1_; have HO307 := n2_; have HO315 := n3_; have HO320 := n4_; have BK291 := n5_; have BK304 := n6_; have BK316 := n7_; have HB := n8_; clear n0_ n1_ n2_ n3_ n4_ n5_ n6_ n7_ n8_; (try clear hb); (try clear hb2); (try clear hk); (try clear hi)) | ((with_reducible refine gate_callee (f := 30) rfl ?_); refine goesL_ (some 40) rfl rfl Try.func30 (by kernel_rfl) rfl #[.slice Ao48 t305.length co48, .int .i64 1] rfl (by (try simp only [List.map_toArray, List.map_cons, List.map_nil]); first | done | rfl | (simp only [List.length_drop, List.length_take]; rfl)) ?_; (with_reducible refine (laws_markBindS.calls k (fun k_ => some k_ = (.slice Ao48 t305.length co48 : Value).ownBlock) (.slice Ao48 t305.length co48) t305 1 t322 t323 w _ ?side1 ?side2 A17.out).mono ?_); (case side1 => repeat (first | (with_reducible first | exact HB.out | apply below_alloc | apply pw_below_drewN | apply below_drew1 | refine below_set ?_ GE291.out | refine below_set ?_ GE304.out | refine below_set ?_ GE316.out) | exact HB.out)); (case side2 => exact Kd.R_tight rfl HO307.out); rintro e w60 ⟨rfl, hy0, hb, hkp⟩; refine ⟨_, rfl, ?_⟩; have n0_ := Aside0.mk (blk_kept (by (with_reducible repeat (first | refine blk_drewN ?_ _ | refine blk_drew ?_ | refine blk_alloc ?_ _)); exact BK291.out) hkp (fun hs_ => (fun e_ => (Kd.R_ne HO307.out BK291.out (by decide)) e_) hs_)); have n1_ := Aside0.mk (Kd.R_mono (ok' := fun k_ => some k_ ≠ (.slice Ao42 t301.length co42 : Value).ownBlock ∧ some k_ ≠ (.slice Ao48 t305.length co48 : Value).ownBlock ∧ some k_ ≠ (.slice Ao54 t313.length co54 : Value).ownBlock ∧ some k_ ≠ (.slice Ao58 t318.length co58 : Value).ownBlock) (Kd.R_keptB (HO295.out) hkp (fun k_ hk_ hs_ => (hk_.1.1.2) hs_)) (fun k_ hk_ => ⟨hk_.1.1.1.1, hk_.1.1.1.2, hk_.1.1.2, hk_.1.2⟩)); have n2_ := Aside0.mk (Kd.R_mono (ok' := fun k_ => some k_ ≠ (v294 : Value).ownBlock ∧ some k_ ≠ (.slice Ao48 t305.length co48 : Value).ownBlock ∧ some k_ ≠ (.slice Ao54 t313.length co54 : Value).ownBlock ∧ some k_ ≠ (.slice Ao58 t318.length co58 : Value).ownBlock) (Kd.R_keptB (HO303.out) hkp (fun k_ hk_ hs_ => (hk_.1.1.2) hs_)) (fun k_ hk_ => ⟨hk_.1.1.1.1, hk_.1.1.1.2, hk_.1.1.2, hk_.1.2⟩)); have n3_ := Aside0.mk (blk_kept (by (with_reducible repeat (first | refine blk_drewN ?_ _ | refine blk_drew ?_ | refine blk_alloc ?_ _)); exact BK304.out) hkp (fun hs_ => (fun e_ => (Kd.R_ne HO307.out BK304.out (by decide)) e_) hs_)); have n4_ := Aside0.mk (Kd.R_reok rfl hy0 (fun k_ e_ => HO307.out.1 k_ e_)); have n5_ := Aside0.mk (Kd.R_mono (ok' := fun k_ => some k_ ≠ (v294 : Value).ownBlock ∧ some k_ ≠ (.slice Ao42 t301.length co42 : Value).ownBlock ∧ some k_ ≠ (.slice Ao48 t305.length co48 : Value).ownBlock ∧ some k_ ≠ (.slice Ao58 t318.length co58 : Value).ownBlock) (Kd.R_keptB (HO315.out) hkp (fun k_ hk_ hs_ => (hk_.1.2) hs_)) (fun k_ hk_ => ⟨hk_.1.1.1.1.2, hk_.1.1.1.2, hk_.1.1.2, hk_.1.2⟩)); have n6_ := Aside0.mk (blk_kept (by (with_reducible repeat (first | refine blk_drewN ?_ _ | refine blk_drew ?_ | refine blk_alloc ?_ _)); exact BK316.out) hkp (fun hs_ => (fun e_ => (Kd.R_ne HO307.out BK316.out (by decide)) e_) hs_)); have n7_ := Aside0.mk (Kd.R_mono (ok' := fun k_ => some k_ ≠ (v294 : Value).ownBlock ∧ some k_ ≠ (.slice Ao42 t301.length co42 : Value).ownBlock ∧ some k_ ≠ (.slice Ao48 t305.length co48 : Value).ownBlock ∧ some k_ ≠ (.slice Ao54 t313.length co54 : Value).ownBlock) (Kd.R_keptB (HO320.out) hkp (fun k_ hk_ hs_ => (hk_.1.2) hs_)) (fun k_ hk_ => ⟨hk_.1.1.1.1.2, hk_.1.1.1.2, hk_.1.1.2, hk_.1.2⟩)); have n8_ := Aside0.mk (hb); clear BK291; clear HO295; clear HO303; clear BK304; clear HO307; clear HO315; clear BK316; clear HO320; clear HB; have BK291 := n0_; have HO295 := n1_; have HO303 := n2_; have BK304 := n3_; have HO307 := n4_; have HO315 := n5_; have BK316 := n6_; have HO320 := n7_; have HB := n8_; clear n0_ n1_ n2_ n3_ n4_ n5_ n6_ n7_ n8_; (try clear hb); (try clear hkp); (try clear hy0); have hcz61_0 : w60.cell? ⟨gb316, 0, none⟩ = some (.int .i64 t312) := (blk_cell BK316.out 0).trans rfl; have hcz61_1 : w60.cell? ⟨gb316, 1, none⟩ = some (.slice Ao54 t313.length co54) := (blk_cell BK316.out 1).trans rfl; have hfz61_0 := blk_frozen BK316.out 0; have hfz61_1 := blk_frozen BK316.out 1; have hcz62_0 : w60.cell? ⟨gb304, 0, none⟩ = some (.int .i64 t300) := (blk_cell BK304.out 0).trans rfl; have hcz62_1 : w60.cell? ⟨gb304, 1, none⟩ = some (.slice Ao42 t301.length co42) := (blk_cell BK304.out 1).trans rfl; have hfz62_0 := blk_frozen BK304.out 0; have hfz62_1 := blk_frozen BK304.out 1) | (go_at_call 28; (with_reducible refine (laws_eqBindsResult.calls k t312 _ _ t313 t300 _ _ t301  _ ?side1 ?side2 ?side3 ?side4 A19.out).mono ?_); (case side1 => repeat (first | exact (Kd.R_reads' HO315.out).2.2 | (with_reducible refine Kd.C_alloc ?_ _) | (with_reducible refine Kd.C_drewN ?_ _) | (with_reducible refine Kd.C_drew ?_))); (case side2 => exact (Kd.R_reads' HO315.out).2.1); (case side3 => repeat (first | exact (Kd.R_reads' HO303.out).2.2 | (with_reducible refine Kd.C_alloc ?_ _) | (with_reducible refine Kd.C_drewN ?_ _) | (with_reducible refine Kd.C_drew ?_))); (case side4 => exact (Kd.R_reads' HO303.out).2.1); rintro e w63 ⟨rfl, hb⟩; have n0_ := Aside0.mk (Kd.R_below (by (with_reducible repeat (first | apply Kd.R_alloc | apply Kd.R_drewN | apply Kd.R_drew)); exact HO295.out) hb); have n1_ := Aside0.mk (Kd.R_below (by (with_reducible repeat (first | apply Kd.R_alloc | apply Kd.R_drewN | apply Kd.R_drew)); exact HO303.out) hb); have n2_ := Aside0.mk (Kd.R_below (by (with_reducible repeat (first | apply Kd.R_alloc | apply Kd.R_drewN | apply Kd.R_drew)); exact HO307.out) hb); have n3_ := Aside0.mk (Kd.R_below (by (with_reducible repeat (first | apply Kd.R_alloc | apply Kd.R_drewN | apply Kd.R_drew)); exact HO315.out) hb); have n4_ := Aside0.mk (Kd.R_below (by (with_reducible repeat (first | apply Kd.R_alloc | apply Kd.R_drewN | apply Kd.R_drew)); exact HO320.out) hb); have n5_ := Aside0.mk (blkb hb BK291.out); have n6_ := Aside0.mk (blkb hb BK304.out); have n7_ := Aside0.mk (blkb hb BK316.out); have n8_ := Aside0.mk (below_step (by repeat (first | (with_reducible first | exact HB.out | apply below_alloc | apply pw_below_drewN | apply below_drew1 | refine below_set ?_ GE291.out | refine below_set ?_ GE304.out | refine below_set ?_ GE316.out) | exact HB.out)) hb); clear HO295; clear HO303; clear HO307; clear HO315; clear HO320; clear BK291; clear BK304; clear BK316; clear HB; have HO295 := n0_; have HO303 := n1_; have HO307 := n2_; have HO315 := n3_; have HO320 := n4_; have BK291 := n5_; have BK304 := n6_; have BK316 := n7_; have HB := n8_; clear n0_ n1_ n2_ n3_ n4_ n5_ n6_ n7_ n8_; (try clear hb); (try clear hb2); (try clear hk); (try clear hi); have hcz64_0 : w63.cell? ⟨gb316, 0, none⟩ = some (.int .i64 t312) := (blk_cell BK316.out 0).trans rfl; have hcz64_1 : w63.cell? ⟨gb316, 1, none⟩ = some (.slice Ao54 t313.length co54) := (blk_cell BK316.out 1).trans rfl; have hfz64_0 := blk_frozen BK316.out 0; have hfz64_1 := blk_frozen BK316.out 1) | ((with_reducible refine gate_callee (f := 31) rfl ?_); refine goesL_ (some 51) rfl rfl Try.func31 (by kernel_rfl) rfl #[.agg #[.int .i64 t312, .slice Ao54 t313.length co54], .int .i64 1] rfl (by (try simp only [List.map_toArray, List.map_cons, List.map_nil]); first | done | rfl | (simp only [List.length_drop, List.length_take]; rfl)) ?_; (with_reducible refine (laws_markBindsResult.calls k t312 (fun k_ => some k_ = (.slice Ao54 t313.length co54 : Value).ownBlock) (.slice Ao54 t313.length co54) t313 1 t325 t326 w _ ?side1 ?side2 A21.out).mono ?_); (case side1 => repeat (first | (with_reducible first | exact HB.out | apply below_alloc | apply pw_below_drewN | apply below_drew1 | refine below_set ?_ GE291.out | refine below_set ?_ GE304.out | refine below_set ?_ GE316.out) | exact HB.out)); (case side2 => exact Kd.R_tight rfl HO315.out); rintro e w65 ⟨rfl, hy0, hb, hkp⟩; refine ⟨_, rfl, ?_⟩; have n0_ := Aside0.mk (blk_kept (by (with_reducible repeat (first | refine blk_drewN ?_ _ | refine blk_drew ?_ | refine blk_alloc ?_ _)); exact BK291.out) hkp (fun hs_ => (fun e_ => (Kd.R_ne HO315.out BK291.out (by decide)) e_) hs_)); have n1_ := Aside0.mk (Kd.R_mono (ok' := fun k_ => some k_ ≠ (.slice Ao42 t301.length co42 : Value).ownBlock ∧ some k_ ≠ (.slice Ao48 t305.length co48 : Value).ownBlock ∧ some k_ ≠ (.slice Ao54 t313.length co54 : Value).ownBlock ∧ some k_ ≠ (.slice Ao58 t318.length co58 : Value).ownBlock) (Kd.R_keptB (HO295.out) hkp (fun k_ hk_ hs_ => (hk_.2.2.1) hs_)) (fun k_ hk_ => ⟨hk_.1.1, hk_.1.2.1, hk_.1.2.2.1, hk_.1.2.2.2⟩)); have n2_ := Aside0.mk (Kd.R_mono (ok' := fun k_ => some k_ ≠ (v294 : Value).ownBlock ∧ some k_ ≠ (.slice Ao48 t305.length co48 : Value).ownBlock ∧ some k_ ≠ (.slice Ao54 t313.length co54 : Value).ownBlock ∧ some k_ ≠ (.slice Ao58 t318.length co58 : Value).ownBlock) (Kd.R_keptB (HO303.out) hkp (fun k_ hk_ hs_ => (hk_.2.2.1) hs_)) (fun k_ hk_ => ⟨hk_.1.1, hk_.1.2.1, hk_.1.2.2.1, hk_.1.2.2.2⟩)); have n3_ := Aside0.mk (blk_kept (by (with_reducible repeat (first | refine blk_drewN ?_ _ | refine blk_drew ?_ | refine blk_alloc ?_ _)); exact BK304.out) hkp (fun hs_ => (fun e_ => (Kd.R_ne HO315.out BK304.out (by decide)) e_) hs_)); have n4_ := Aside0.mk (Kd.R_mono (ok' := fun k_ => some k_ ≠ (v294 : Value).ownBlock ∧ some k_ ≠ (.slice Ao42 t301.length co42 : Value).ownBlock ∧ some k_ ≠ (.slice Ao54 t313.length co54 : Value).ownBlock ∧ some k_ ≠ (.slice Ao58 t318.length co58 : Value).ownBlock) (Kd.R_keptB (HO307.out) hkp (fun k_ hk_ hs_ => (hk_.1.2) hs_)) (fun k_ hk_ => ⟨hk_.1.1.1.1.2, hk_.1.1.1.2, hk_.1.1.2, hk_.1.2⟩)); have n5_ := Aside0.mk (Kd.R_reok rfl hy0 (fun k_ e_ => HO315.out.1 k_ e_)); have n6_ := Aside0.mk (blk_kept (by (with_reducible repeat (first | refine blk_drewN ?_ _ | refine blk_drew ?_ | refine blk_alloc ?_ _)); exact BK316.out) hkp (fun hs_ => (fun e_ => (Kd.R_ne HO315.out BK316.out (by decide)) e_) hs_)); have n7_ := Aside0.mk (Kd.R_mono (ok' := fun k_ => some k_ ≠ (v294 : Value).ownBlock ∧ some k_ ≠ (.slice Ao42 t301.length co42 : Value).ownBlock ∧ some k_ ≠ (.slice Ao48 t305.length co48 : Value).ownBlock ∧ some k_ ≠ (.slice Ao54 t313.length co54 : Value).ownBlock) (Kd.R_keptB (HO320.out) hkp (fun k_ hk_ hs_ => (hk_.2.2.2) hs_)) (fun k_ hk_ => ⟨hk_.1.1, hk_.1.2.1, hk_.1.2.2.1, hk_.1.2.2.2⟩)); have n8_ := Aside0.mk (hb); clear BK291; clear HO295; clear HO303; clear BK304; clear HO307; clear HO315; clear BK316; clear HO320; clear HB; have BK291 := n0_; have HO295 := n1_; have HO303 := n2_; have BK304 := n3_; have HO307 := n4_; have HO315 := n5_; have BK316 := n6_; have HO320 := n7_; have HB := n8_; clear n0_ n1_ n2_ n3_ n4_ n5_ n6_ n7_ n8_; (try clear hb); (try clear hkp); (try clear hy0); have hcz66_0 : w65.cell? ⟨gb316, 0, none⟩ = some (.int .i64 t312) := (blk_cell BK316.out 0).trans rfl; have hcz66_1 : w65.cell? ⟨gb316, 1, none⟩ = some (.slice Ao54 t313.length co54) := (blk_cell BK316.out 1).trans rfl; have hfz66_0 := blk_frozen BK316.out 0; have hfz66_1 := blk_frozen BK316.out 1) | ((with_reducible refine gate_callee (f := 32) rfl ?_); refine goesL_ (some 54) rfl rfl Try.func32 (by kernel_rfl) rfl #[.agg #[.int .i64 t312, .slice Ao54 t326.length co54], .int .i64 1] rfl (by (try simp only [List.map_toArray, List.map_cons, List.map_nil]); first | done | (rw [show t326.length = t313.length from (Kd.R_reads' HO315.out).1.symm] <;> rfl) | rfl | (simp only [List.length_drop, List.length_take]; rfl)) ?_; (with_reducible refine (laws_heldBindsResult.calls k t312 _ _ t326 1 t327 _ ?side1 ?side2 A22.out).mono ?_); (case side1 => repeat (first | exact (Kd.R_reads' HO315.out).2.2 | (with_reducible refine Kd.C_alloc ?_ _) | (with_reducible refine Kd.C_drewN ?_ _) | (with_reducible refine Kd.C_drew ?_))); (case side2 => rw [show t326.length = t313.length from (Kd.R_reads' HO315.out).1.symm]; exact (Kd.R_reads' HO315.out).2.1); rintro e w67 ⟨rfl, hb⟩; refine ⟨_, rfl, ?_⟩; have n0_ := Aside0.mk (Kd.R_below (by (with_reducible repeat (first | apply Kd.R_alloc | apply Kd.R_drewN | apply Kd.R_drew)); exact HO295.out) hb); have n1_ := Aside0.mk (Kd.R_below (by (with_reducible repeat (first | apply Kd.R_alloc | apply Kd.R_drewN | apply Kd.R_drew)); exact HO303.out) hb); have n2_ := Aside0.mk (Kd.R_below (by (with_reducible repeat (first | apply Kd.R_alloc | apply Kd.R_drewN | apply Kd.R_drew)); exact HO307.out) hb); have n3_ := Aside0.mk (Kd.R_below (by (with_reducible repeat (first | apply Kd.R_alloc | apply Kd.R_drewN | apply Kd.R_drew)); exact HO315.out) hb); have n4_ := Aside0.mk (Kd.R_below (by (with_reducible repeat (first | apply Kd.R_alloc | apply Kd.R_drewN | apply Kd.R_drew)); exact HO320.out) hb); have n5_ := Aside0.mk (blkb hb BK291.out); have n6_ := Aside0.mk (blkb hb BK304.out); have n7_ := Aside0.mk (blkb hb BK316.out); have n8_ := Aside0.mk (below_step (by repeat (first | (with_reducible first | exact HB.out | apply below_alloc | apply pw_below_drewN | apply below_drew1 | refine below_set ?_ GE291.out | refine below_set ?_ GE304.out | refine below_set ?_ GE316.out) | exact HB.out)) hb); clear HO295; clear HO303; clear HO307; clear HO315; clear HO320; clear BK291; clear BK304; clear BK316; clear HB; have HO295 := n0_; have HO303 := n1_; have HO307 := n2_; have HO315 := n3_; have HO320 := n4_; have BK291 := n5_; have BK304 := n6_; have BK316 := n7_; have HB := n8_; clear n0_ n1_ n2_ n3_ n4_ n5_ n6_ n7_ n8_; (try clear hb); (try clear hb2); (try clear hk); (try clear hi)))
           have n0_ := Aside0.mk (Kd.R_drew HO295.out)
           have n1_ := Aside0.mk (Kd.R_drew HO303.out)
           have n2_ := Aside0.mk (Kd.R_drew HO307.out)
           have n3_ := Aside0.mk (Kd.R_drew HO315.out)
           have n4_ := Aside0.mk (Kd.R_drew HO320.out)
           have n5_ := Aside0.mk (blk_drew BK291.out)
           have n6_ := Aside0.mk (blk_drew BK304.out)
           have n7_ := Aside0.mk (blk_drew BK316.out)
           have n8_ := Aside0.mk (below_drew1 HB.out)
           clear HO295
           clear HO303
           clear HO307
           clear HO315
           clear HO320
           clear BK291
           clear BK304
           clear BK316
           clear HB
           have HO295 := n0_
           have HO303 := n1_
           have HO307 := n2_
           have HO315 := n3_
           have HO320 := n4_
           have BK291 := n5_
           have BK304 := n6_
           have BK316 := n7_
           have HB := n8_
           clear n0_ n1_ n2_ n3_ n4_ n5_ n6_ n7_ n8_
           refine start_ (n := 7) (S := fun w' => w'.cell? ⟨gb291, 0, none⟩ = some (.int .i64 a1_0) ∧ w'.cell? ⟨gb291, 1, none⟩ = some (.int .i64 a1_1) ∧ w'.cell? ⟨gb291, 2, none⟩ = some (.int .i64 a1_2) ∧ w'.cell? ⟨gb291, 3, none⟩ = some (.int .i64 a1_3)) (ds := []) #[false, false, false, false, false, false, false] (by kernel_rfl) rfl rfl ⟨(blk_cell BK291.out 0).trans rfl, (blk_cell BK291.out 1).trans rfl, (blk_cell BK291.out 2).trans rfl, (blk_cell BK291.out 3).trans rfl⟩ (fun hHeld => ?_)
           generalize w67.drew = w68 at HO295 HO303 HO307 HO315 HO320 BK291 BK304 BK316 HB hHeld ⊢
           refine pure_ (i := 0) (N := some 60) (v := ?_) (a' := ?_) #[true, false, false, false, false, false, false] rfl rfl (by kernel_rfl) (fun _ _ _ h => h) (Or.inl ⟨by rfl, ?_⟩) ?_ ?_
           rotate_left
           ·intro w'
            go_simp
            with_reducible rfl
           rotate_left
           ·simp only [Act.put, List.setIfInBounds_toArray, List.set_cons_zero, List.set_cons_succ, i64_w, i32_w]
            rfl
           refine take_ (i := 2) (N := some 62) (v := ?_) (a' := ?_) #[true, false, true, false, false, false, false] rfl rfl (by kernel_rfl) (fun _ _ _ h => h) (Or.inl ⟨by rfl, ?_⟩) hHeld ?_ ?_
           rotate_left
           ·rintro w' ⟨s0, s1, s2, s3⟩
            go_simp
            with_reducible rfl
           rotate_left
           ·simp only [Act.put, List.setIfInBounds_toArray, List.set_cons_zero, List.set_cons_succ, i64_w, i32_w]
            rfl
           refine join_ (σ := Value × Value × Nat) 1 #[true, true, true, true, true, true, false] (fun s_ => [(61, s_.1), (63, .agg #[.int .i64 t331, .int .i64 t332, .int .i64 t333, .int .i64 t334]), (64, .agg #[.int .i64 t335, s_.2.1]), (12, .pointer (some ⟨s_.2.2, 0, none⟩))]) (fun s_ w' => (w'.cell? ⟨gb291, 0, none⟩ = some (.int .i64 a1_0) ∧ w'.cell? ⟨gb291, 1, none⟩ = some (.int .i64 a1_1) ∧ w'.cell? ⟨gb291, 2, none⟩ = some (.int .i64 a1_2) ∧ w'.cell? ⟨gb291, 3, none⟩ = some (.int .i64 a1_3)) ∧ (Kd.R k64 64 w' w.heap.size (fun k_ => some k_ ≠ (.slice Ao42 t301.length co42 : Value).ownBlock ∧ some k_ ≠ (.slice Ao48 t305.length co48 : Value).ownBlock ∧ some k_ ≠ (.slice Ao54 t313.length co54 : Value).ownBlock ∧ some k_ ≠ (.slice Ao58 t318.length co58 : Value).ownBlock ∧ some k_ ≠ (s_.1 : Value).ownBlock ∧ some k_ ≠ (s_.2.1 : Value).ownBlock) v294 t293) ∧ (Kd.R k64 64 w' w.heap.size (fun k_ => some k_ ≠ (v294 : Value).ownBlock ∧ some k_ ≠ (.slice Ao48 t305.length co48 : Value).ownBlock ∧ some k_ ≠ (.slice Ao54 t313.length co54 : Value).ownBlock ∧ some k_ ≠ (.slice Ao58 t318.length co58 : Value).ownBlock ∧ some k_ ≠ (s_.1 : Value).ownBlock ∧ some k_ ≠ (s_.2.1 : Value).ownBlock) (.slice Ao42 t301.length co42) t301) ∧ (Kd.R k64 64 w' w.heap.size (fun k_ => some k_ ≠ (v294 : Value).ownBlock ∧ some k_ ≠ (.slice Ao42 t301.length co42 : Value).ownBlock ∧ some k_ ≠ (.slice Ao54 t313.length co54 : Value).ownBlock ∧ some k_ ≠ (.slice Ao58 t318.length co58 : Value).ownBlock ∧ some k_ ≠ (s_.1 : Value).ownBlock ∧ some k_ ≠ (s_.2.1 : Value).ownBlock) (.slice Ao48 t305.length co48) t323) ∧ (Kd.R k64 64 w' w.heap.size (fun k_ => some k_ ≠ (v294 : Value).ownBlock ∧ some k_ ≠ (.slice Ao42 t301.length co42 : Value).ownBlock ∧ some k_ ≠ (.slice Ao48 t305.length co48 : Value).ownBlock ∧ some k_ ≠ (.slice Ao58 t318.length co58 : Value).ownBlock ∧ some k_ ≠ (s_.1 : Value).ownBlock ∧ some k_ ≠ (s_.2.1 : Value).ownBlock) (.slice Ao54 t313.length co54) t326) ∧ (Kd.R k64 64 w' w.heap.size (fun k_ => some k_ ≠ (v294 : Value).ownBlock ∧ some k_ ≠ (.slice Ao42 t301.length co42 : Value).ownBlock ∧ some k_ ≠ (.slice Ao48 t305.length co48 : Value).ownBlock ∧ some k_ ≠ (.slice Ao54 t313.length co54 : Value).ownBlock ∧ some k_ ≠ (s_.1 : Value).ownBlock ∧ some k_ ≠ (s_.2.1 : Value).ownBlock) (.slice Ao58 t318.length co58) t318) ∧ (Kd.R k64 64 w' w.heap.size (fun k_ => some k_ ≠ (v294 : Value).ownBlock ∧ some k_ ≠ (.slice Ao42 t301.length co42 : Value).ownBlock ∧ some k_ ≠ (.slice Ao48 t305.length co48 : Value).ownBlock ∧ some k_ ≠ (.slice Ao54 t313.length co54 : Value).ownBlock ∧ some k_ ≠ (.slice Ao58 t318.length co58 : Value).ownBlock ∧ some k_ ≠ (s_.2.1 : Value).ownBlock) s_.1 t328) ∧ (Kd.R k64 64 w' w.heap.size (fun k_ => some k_ ≠ (v294 : Value).ownBlock ∧ some k_ ≠ (.slice Ao42 t301.length co42 : Value).ownBlock ∧ some k_ ≠ (.slice Ao48 t305.length co48 : Value).ownBlock ∧ some k_ ≠ (.slice Ao54 t313.length co54 : Value).ownBlock ∧ some k_ ≠ (.slice Ao58 t318.length co58 : Value).ownBlock ∧ some k_ ≠ (s_.1 : Value).ownBlock) s_.2.1 t336) ∧ (w'.heap[gb291]? = some (.cells #[.int .i64 a1_0, .int .i64 a1_1, .int .i64 a1_2, .int .i64 a1_3] 55 (0, 0))) ∧ (w'.heap[gb304]? = some (.cells #[.int .i64 t300, .slice Ao42 t301.length co42] 59 (0, 0))) ∧ (w'.heap[gb316]? = some (.cells #[.int .i64 t312, .slice Ao54 t313.length co54] 59 (0, 0))) ∧ (w'.heap[s_.2.2]? = some (.cells #[.int .i64 0, .slice none 0 0] 59 (0, 0))) ∧ (w.heap.size ≤ s_.2.2) ∧ (w.heap.size ≤ s_.2.2) ∧ (gb291 ≠ s_.2.2) ∧ (s_.2.2 ≠ gb291) ∧ (gb304 ≠ s_.2.2) ∧ (s_.2.2 ≠ gb304) ∧ (gb316 ≠ s_.2.2) ∧ (s_.2.2 ≠ gb316) ∧ (Below w.heap.size w w')) ?_ ?_
           rotate_left
           ·intro hCont
            refine two_ (i := 1) (j := 5) (Ni := some 61) (Nj := some 12) #[true, true, true, false, false, false, false] #[true, false, true, false, false, true, false] rfl rfl rfl rfl (by kernel_rfl) (by decide) (by decide) (fun K hK => ?_) (fun K hK => ?_)
            ·skip
             refine goes_ Try.func25 (by kernel_rfl) rfl #[.slice A0 l0.length c0] (by rfl) rfl rfl (by (try simp only [List.map_toArray, List.map_cons, List.map_nil]); first | done | rfl | (simp only [List.length_drop, List.length_take]; rfl)) ?_
             with_reducible refine (laws_toBindS.calls k _ _ l0 t328 _ ?side1 ?side2 A25.out).mono ?_
             (case side1 => repeat (first | exact (Kd.C_below HR0.out HB.out) | (with_reducible refine Kd.C_alloc ?_ _) | (with_reducible refine Kd.C_drewN ?_ _) | (with_reducible refine Kd.C_drew ?_)))
             (case side2 => exact HC0.out)
             rintro e w69 ⟨v329, rfl, ho0, hb⟩
             refine ⟨_, rfl, ?_⟩
             have n0_ := Aside0.mk (Kd.R_elder' (by (with_reducible repeat (first | apply Kd.R_alloc | apply Kd.R_drewN | apply Kd.R_drew)); exact HO295.out) (Kd.R_base ho0) hb)
             have n1_ := Aside0.mk (Kd.R_elder' (by (with_reducible repeat (first | apply Kd.R_alloc | apply Kd.R_drewN | apply Kd.R_drew)); exact HO303.out) (Kd.R_base ho0) hb)
             have n2_ := Aside0.mk (Kd.R_elder' (by (with_reducible repeat (first | apply Kd.R_alloc | apply Kd.R_drewN | apply Kd.R_drew)); exact HO307.out) (Kd.R_base ho0) hb)
             have n3_ := Aside0.mk (Kd.R_elder' (by (with_reducible repeat (first | apply Kd.R_alloc | apply Kd.R_drewN | apply Kd.R_drew)); exact HO315.out) (Kd.R_base ho0) hb)
             have n4_ := Aside0.mk (Kd.R_elder' (by (with_reducible repeat (first | apply Kd.R_alloc | apply Kd.R_drewN | apply Kd.R_drew)); exact HO320.out) (Kd.R_base ho0) hb)
             have n5_ := Aside0.mk (Kd.R_lower (Kd.R_new' (Kd.R_new' (Kd.R_new' (Kd.R_new' (Kd.R_new' ho0 (Kd.R_lt (by (with_reducible repeat (first | apply Kd.R_alloc | apply Kd.R_drewN | apply Kd.R_drew)); exact HO295.out))) (Kd.R_lt (by (with_reducible repeat (first | apply Kd.R_alloc | apply Kd.R_drewN | apply Kd.R_drew)); exact HO303.out))) (Kd.R_lt (by (with_reducible repeat (first | apply Kd.R_alloc | apply Kd.R_drewN | apply Kd.R_drew)); exact HO307.out))) (Kd.R_lt (by (with_reducible repeat (first | apply Kd.R_alloc | apply Kd.R_drewN | apply Kd.R_drew)); exact HO315.out))) (Kd.R_lt (by (with_reducible repeat (first | apply Kd.R_alloc | apply Kd.R_drewN | apply Kd.R_drew)); exact HO320.out))) (below_size (by repeat (first | (with_reducible first | exact HB.out | apply below_alloc | apply pw_below_drewN | apply below_drew1 | refine below_set ?_ GE291.out | refine below_set ?_ GE304.out | refine below_set ?_ GE316.out) | exact HB.out))))
             have n6_ := Aside0.mk (blkb hb BK291.out)
             have n7_ := Aside0.mk (blkb hb BK304.out)
             have n8_ := Aside0.mk (blkb hb BK316.out)
             have n9_ := Aside0.mk (below_step (by repeat (first | (with_reducible first | exact HB.out | apply below_alloc | apply pw_below_drewN | apply below_drew1 | refine below_set ?_ GE291.out | refine below_set ?_ GE304.out | refine below_set ?_ GE316.out) | exact HB.out)) hb)
             clear HO295
             clear HO303
             clear HO307
             clear HO315
             clear HO320
             clear BK291
             clear BK304
             clear BK316
             clear HB
             have HO295 := n0_
             have HO303 := n1_
             have HO307 := n2_
             have HO315 := n3_
             have HO320 := n4_
             have HO330 := n5_
             have BK291 := n6_
             have BK304 := n7_
             have BK316 := n8_
             have HB := n9_
             clear n0_ n1_ n2_ n3_ n4_ n5_ n6_ n7_ n8_ n9_
             (try clear hb)
             (try clear hb2)
             (try clear hk)
             (try clear hi)
             (try clear ho0)
             refine hK.out _ _ ⟨(blk_cell BK291.out 0).trans rfl, (blk_cell BK291.out 1).trans rfl, (blk_cell BK291.out 2).trans rfl, (blk_cell BK291.out 3).trans rfl⟩ (fun hHeld => ?_)
             clear hK K
             refine norm_ (a' := ?_) ?_ ?_
             rotate_left
             ·show Act.put _ (some 61) _ = _
              simp only [Act.put, List.setIfInBounds_toArray, List.set_cons_zero, List.set_cons_succ, i64_w, i32_w]
              rfl
             refine two_ (i := 3) (j := 5) (Ni := some 63) (Nj := some 12) #[true, true, true, true, false, false, false] #[true, true, true, false, false, true, false] rfl rfl rfl rfl (by kernel_rfl) (by decide) (by decide) (fun K hK => ?_) (fun K hK => ?_)
             ·skip
              refine goes_ Try.func26 (by kernel_rfl) rfl #[.agg #[.int .i64 a1_0, .int .i64 a1_1, .int .i64 a1_2, .int .i64 a1_3]] (by rfl) rfl rfl (by (try simp only [List.map_toArray, List.map_cons, List.map_nil]); first | done | rfl | (simp only [List.length_drop, List.length_take]; rfl)) ?_
              with_reducible refine (laws_toBind.calls a1_0 a1_1 a1_2 a1_3 t331 t332 t333 t334 _ A26.out).mono ?_
              rintro e w70 ⟨rfl, hb⟩
              refine ⟨_, rfl, ?_⟩
              have n0_ := Aside0.mk (Kd.R_below (by (with_reducible repeat (first | apply Kd.R_alloc | apply Kd.R_drewN | apply Kd.R_drew)); exact HO295.out) hb)
              have n1_ := Aside0.mk (Kd.R_below (by (with_reducible repeat (first | apply Kd.R_alloc | apply Kd.R_drewN | apply Kd.R_drew)); exact HO303.out) hb)
              have n2_ := Aside0.mk (Kd.R_below (by (with_reducible repeat (first | apply Kd.R_alloc | apply Kd.R_drewN | apply Kd.R_drew)); exact HO307.out) hb)
              have n3_ := Aside0.mk (Kd.R_below (by (with_reducible repeat (first | apply Kd.R_alloc | apply Kd.R_drewN | apply Kd.R_drew)); exact HO315.out) hb)
              have n4_ := Aside0.mk (Kd.R_below (by (with_reducible repeat (first | apply Kd.R_alloc | apply Kd.R_drewN | apply Kd.R_drew)); exact HO320.out) hb)
              have n5_ := Aside0.mk (Kd.R_below (by (with_reducible repeat (first | apply Kd.R_alloc | apply Kd.R_drewN | apply Kd.R_drew)); exact HO330.out) hb)
              have n6_ := Aside0.mk (blkb hb BK291.out)
              have n7_ := Aside0.mk (blkb hb BK304.out)
              have n8_ := Aside0.mk (blkb hb BK316.out)
              have n9_ := Aside0.mk (below_step (by repeat (first | (with_reducible first | exact HB.out | apply below_alloc | apply pw_below_drewN | apply below_drew1 | refine below_set ?_ GE291.out | refine below_set ?_ GE304.out | refine below_set ?_ GE316.out) | exact HB.out)) hb)
              clear HO295
              clear HO303
              clear HO307
              clear HO315
              clear HO320
              clear HO330
              clear BK291
              clear BK304
              clear BK316
              clear HB
              have HO295 := n0_
              have HO303 := n1_
              have HO307 := n2_
              have HO315 := n3_
              have HO320 := n4_
              have HO330 := n5_
              have BK291 := n6_
              have BK304 := n7_
              have BK316 := n8_
              have HB := n9_
              clear n0_ n1_ n2_ n3_ n4_ n5_ n6_ n7_ n8_ n9_
              (try clear hb)
              (try clear hb2)
              (try clear hk)
              (try clear hi)
              obtain ⟨Ao71, co71, eo71⟩ := Kd.R_slice HO330.out
              (first | subst eo71 | (injection eo71 with f1_ f2_ f3_; have f4_ := f1_.symm; have f5_ := f3_.symm; clear f1_ f2_ f3_; subst f4_; subst f5_))
              refine hK.out _ _ ⟨(blk_cell BK291.out 0).trans rfl, (blk_cell BK291.out 1).trans rfl, (blk_cell BK291.out 2).trans rfl, (blk_cell BK291.out 3).trans rfl⟩ (fun hHeld => ?_)
              clear hK K
              refine norm_ (a' := ?_) ?_ ?_
              rotate_left
              ·show Act.put _ (some 63) _ = _
               simp only [Act.put, List.setIfInBounds_toArray, List.set_cons_zero, List.set_cons_succ, i64_w, i32_w]
               rfl
              refine two_ (i := 4) (j := 5) (Ni := some 64) (Nj := some 12) #[true, true, true, true, true, false, false] #[true, true, true, true, false, true, false] rfl rfl rfl rfl (by kernel_rfl) (by decide) (by decide) (fun K hK => ?_) (fun K hK => ?_)
              ·skip
               refine goes_ Try.func27 (by kernel_rfl) rfl #[.slice Ao71 t328.length co71, .agg #[.int .i64 t331, .int .i64 t332, .int .i64 t333, .int .i64 t334]] (by rfl) rfl rfl (by (try simp only [List.map_toArray, List.map_cons, List.map_nil]); first | done | rfl | (simp only [List.length_drop, List.length_take]; rfl)) ?_
               with_reducible refine (impl_PutBind.calls k _ _ t328 t331 t332 t333 t334 t335 t336 _ ?side1 ?side2 A27.out).mono ?_
               (case side1 => repeat (first | exact (Kd.R_reads' HO330.out).2.2 | (with_reducible refine Kd.C_alloc ?_ _) | (with_reducible refine Kd.C_drewN ?_ _) | (with_reducible refine Kd.C_drew ?_)))
               (case side2 => exact (Kd.R_reads' HO330.out).2.1)
               rintro e w72 ⟨v337, rfl, ho0, hb⟩
               refine ⟨_, rfl, ?_⟩
               have n0_ := Aside0.mk (Kd.R_elder' (by (with_reducible repeat (first | apply Kd.R_alloc | apply Kd.R_drewN | apply Kd.R_drew)); exact HO295.out) (Kd.R_base ho0) hb)
               have n1_ := Aside0.mk (Kd.R_elder' (by (with_reducible repeat (first | apply Kd.R_alloc | apply Kd.R_drewN | apply Kd.R_drew)); exact HO303.out) (Kd.R_base ho0) hb)
               have n2_ := Aside0.mk (Kd.R_elder' (by (with_reducible repeat (first | apply Kd.R_alloc | apply Kd.R_drewN | apply Kd.R_drew)); exact HO307.out) (Kd.R_base ho0) hb)
               have n3_ := Aside0.mk (Kd.R_elder' (by (with_reducible repeat (first | apply Kd.R_alloc | apply Kd.R_drewN | apply Kd.R_drew)); exact HO315.out) (Kd.R_base ho0) hb)
               have n4_ := Aside0.mk (Kd.R_elder' (by (with_reducible repeat (first | apply Kd.R_alloc | apply Kd.R_drewN | apply Kd.R_drew)); exact HO320.out) (Kd.R_base ho0) hb)
               have n5_ := Aside0.mk (Kd.R_elder' (by (with_reducible repeat (first | apply Kd.R_alloc | apply Kd.R_drewN | apply Kd.R_drew)); exact HO330.out) (Kd.R_base ho0) hb)
               have n6_ := Aside0.mk (Kd.R_lower (Kd.R_new' (Kd.R_new' (Kd.R_new' (Kd.R_new' (Kd.R_new' (Kd.R_new' ho0 (Kd.R_lt (by (with_reducible repeat (first | apply Kd.R_alloc | apply Kd.R_drewN | apply Kd.R_drew)); exact HO295.out))) (Kd.R_lt (by (with_reducible repeat (first | apply Kd.R_alloc | apply Kd.R_drewN | apply Kd.R_drew)); exact HO303.out))) (Kd.R_lt (by (with_reducible repeat (first | apply Kd.R_alloc | apply Kd.R_drewN | apply Kd.R_drew)); exact HO307.out))) (Kd.R_lt (by (with_reducible repeat (first | apply Kd.R_alloc | apply Kd.R_drewN | apply Kd.R_drew)); exact HO315.out))) (Kd.R_lt (by (with_reducible repeat (first | apply Kd.R_alloc | apply Kd.R_drewN | apply Kd.R_drew)); exact HO320.out))) (Kd.R_lt (by (with_reducible repeat (first | apply Kd.R_alloc | apply Kd.R_drewN | apply Kd.R_drew)); exact HO330.out))) (below_size (by repeat (first | (with_reducible first | exact HB.out | apply below_alloc | apply pw_below_drewN | apply below_drew1 | refine below_set ?_ GE291.out | refine below_set ?_ GE304.out | refine below_set ?_ GE316.out) | exact HB.out))))
               have n7_ := Aside0.mk (blkb hb BK291.out)
               have n8_ := Aside0.mk (blkb hb BK304.out)
               have n9_ := Aside0.mk (blkb hb BK316.out)
               have n10_ := Aside0.mk (below_step (by repeat (first | (with_reducible first | exact HB.out | apply below_alloc | apply pw_below_drewN | apply below_drew1 | refine below_set ?_ GE291.out | refine below_set ?_ GE304.out | refine below_set ?_ GE316.out) | exact HB.out)) hb)
               clear HO295
               clear HO303
               clear HO307
               clear HO315
               clear HO320
               clear HO330
               clear BK291
               clear BK304
               clear BK316
               clear HB
               have HO295 := n0_
               have HO303 := n1_
               have HO307 := n2_
               have HO315 := n3_
               have HO320 := n4_
               have HO330 := n5_
               have HO338 := n6_
               have BK291 := n7_
               have BK304 := n8_
               have BK316 := n9_
               have HB := n10_
               clear n0_ n1_ n2_ n3_ n4_ n5_ n6_ n7_ n8_ n9_ n10_
               (try clear hb)
               (try clear hb2)
               (try clear hk)
               (try clear hi)
               (try clear ho0)
               refine hK.out _ _ ⟨(blk_cell BK291.out 0).trans rfl, (blk_cell BK291.out 1).trans rfl, (blk_cell BK291.out 2).trans rfl, (blk_cell BK291.out 3).trans rfl⟩ (fun hHeld => ?_)
               clear hK K
               refine norm_ (a' := ?_) ?_ ?_
               rotate_left
               ·show Act.put _ (some 64) _ = _
                simp only [Act.put, List.setIfInBounds_toArray, List.set_cons_zero, List.set_cons_succ, i64_w, i32_w]
                rfl
               refine one_ (i := 5) (N := some 12) #[true, true, true, true, true, true, false] rfl rfl (by kernel_rfl) (by decide) (fun K hK => ?_)
               refine box_step ?hg (N := 12) ?hd (cs := #[.int .i64 0, .slice none 0 0]) (t := 59) ?hr ?_; (case hd => rfl); (case hg => rfl); (case hr => first | (go_simp; done) | (go_simp; rfl))
               intro gb339 hg w73 hbox hb
               have n0_ := Aside0.mk (Kd.R_below (by (with_reducible repeat (first | apply Kd.R_alloc | apply Kd.R_drewN | apply Kd.R_drew)); exact HO295.out) hb)
               have n1_ := Aside0.mk (Kd.R_below (by (with_reducible repeat (first | apply Kd.R_alloc | apply Kd.R_drewN | apply Kd.R_drew)); exact HO303.out) hb)
               have n2_ := Aside0.mk (Kd.R_below (by (with_reducible repeat (first | apply Kd.R_alloc | apply Kd.R_drewN | apply Kd.R_drew)); exact HO307.out) hb)
               have n3_ := Aside0.mk (Kd.R_below (by (with_reducible repeat (first | apply Kd.R_alloc | apply Kd.R_drewN | apply Kd.R_drew)); exact HO315.out) hb)
               have n4_ := Aside0.mk (Kd.R_below (by (with_reducible repeat (first | apply Kd.R_alloc | apply Kd.R_drewN | apply Kd.R_drew)); exact HO320.out) hb)
               have n5_ := Aside0.mk (Kd.R_below (by (with_reducible repeat (first | apply Kd.R_alloc | apply Kd.R_drewN | apply Kd.R_drew)); exact HO330.out) hb)
               have n6_ := Aside0.mk (Kd.R_below (by (with_reducible repeat (first | apply Kd.R_alloc | apply Kd.R_drewN | apply Kd.R_drew)); exact HO338.out) hb)
               have n7_ := Aside0.mk (blkb hb BK291.out)
               have n8_ := Aside0.mk (blkb hb BK304.out)
               have n9_ := Aside0.mk (blkb hb BK316.out)
               have n10_ := Aside0.mk (below_step (by repeat (first | (with_reducible first | exact HB.out | apply below_alloc | apply pw_below_drewN | apply below_drew1 | refine below_set ?_ GE291.out | refine below_set ?_ GE304.out | refine below_set ?_ GE316.out) | exact HB.out)) hb)
               have n11_ := Aside0.mk (hbox)
               have n12_ := Aside0.mk ((by rw [hg]; exact (below_size (by repeat (first | (with_reducible first | exact HB.out | apply below_alloc | apply pw_below_drewN | apply below_drew1 | refine below_set ?_ GE291.out | refine below_set ?_ GE304.out | refine below_set ?_ GE316.out) | exact HB.out))) : w.heap.size ≤ gb339))
               have n13_ := Aside0.mk ((by rw [hg]; exact (below_size (by repeat (first | (with_reducible first | exact HB.out | apply below_alloc | apply pw_below_drewN | apply below_drew1 | refine below_set ?_ GE291.out | refine below_set ?_ GE304.out | refine below_set ?_ GE316.out) | exact HB.out))) : w.heap.size ≤ gb339))
               have n14_ := Aside0.mk ((blkn hg BK291.out))
               have n15_ := Aside0.mk ((blkm hg BK291.out))
               have n16_ := Aside0.mk ((blkn hg BK304.out))
               have n17_ := Aside0.mk ((blkm hg BK304.out))
               have n18_ := Aside0.mk ((blkn hg BK316.out))
               have n19_ := Aside0.mk ((blkm hg BK316.out))
               clear HO295
               clear HO303
               clear HO307
               clear HO315
               clear HO320
               clear HO330
               clear HO338
               clear BK291
               clear BK304
               clear BK316
               clear HB
               have HO295 := n0_
               have HO303 := n1_
               have HO307 := n2_
               have HO315 := n3_
               have HO320 := n4_
               have HO330 := n5_
               have HO338 := n6_
               have BK291 := n7_
               have BK304 := n8_
               have BK316 := n9_
               have HB := n10_
               have BK339 := n11_
               have GW339 := n12_
               have GE339 := n13_
               have NB291_339 := n14_
               have NB339_291 := n15_
               have NB304_339 := n16_
               have NB339_304 := n17_
               have NB316_339 := n18_
               have NB339_316 := n19_
               clear n0_ n1_ n2_ n3_ n4_ n5_ n6_ n7_ n8_ n9_ n10_ n11_ n12_ n13_ n14_ n15_ n16_ n17_ n18_ n19_
               clear hb hbox hg
               refine hK.out _ _ ⟨(blk_cell BK291.out 0).trans rfl, (blk_cell BK291.out 1).trans rfl, (blk_cell BK291.out 2).trans rfl, (blk_cell BK291.out 3).trans rfl⟩ (fun hHeld => ?_)
               clear hK K
               refine norm_ (a' := ?_) ?_ ?_
               rotate_left
               ·show Act.put _ (some 12) _ = _
                simp only [Act.put, List.setIfInBounds_toArray, List.set_cons_zero, List.set_cons_succ, i64_w, i32_w]
                rfl
               exact norm_ (by simp only [putAll, Act.put, List.setIfInBounds_toArray, List.set_cons_zero, List.set_cons_succ]) (hCont (.slice Ao71 t328.length co71, v337, gb339) _ ⟨hHeld, (by (with_reducible repeat (first | apply Kd.R_alloc | apply Kd.R_drewN | apply Kd.R_drew)); exact Kd.R_mono HO295.out (fun _ hk => ⟨hk.1.1.1, ⟨hk.1.1.2.1, ⟨hk.1.1.2.2.1, ⟨hk.1.1.2.2.2, ⟨hk.1.2, hk.2⟩⟩⟩⟩⟩)), (by (with_reducible repeat (first | apply Kd.R_alloc | apply Kd.R_drewN | apply Kd.R_drew)); exact Kd.R_mono HO303.out (fun _ hk => ⟨hk.1.1.1, ⟨hk.1.1.2.1, ⟨hk.1.1.2.2.1, ⟨hk.1.1.2.2.2, ⟨hk.1.2, hk.2⟩⟩⟩⟩⟩)), (by (with_reducible repeat (first | apply Kd.R_alloc | apply Kd.R_drewN | apply Kd.R_drew)); exact Kd.R_mono HO307.out (fun _ hk => ⟨hk.1.1.1, ⟨hk.1.1.2.1, ⟨hk.1.1.2.2.1, ⟨hk.1.1.2.2.2, ⟨hk.1.2, hk.2⟩⟩⟩⟩⟩)), (by (with_reducible repeat (first | apply Kd.R_alloc | apply Kd.R_drewN | apply Kd.R_drew)); exact Kd.R_mono HO315.out (fun _ hk => ⟨hk.1.1.1, ⟨hk.1.1.2.1, ⟨hk.1.1.2.2.1, ⟨hk.1.1.2.2.2, ⟨hk.1.2, hk.2⟩⟩⟩⟩⟩)), (by (with_reducible repeat (first | apply Kd.R_alloc | apply Kd.R_drewN | apply Kd.R_drew)); exact Kd.R_mono HO320.out (fun _ hk => ⟨hk.1.1.1, ⟨hk.1.1.2.1, ⟨hk.1.1.2.2.1, ⟨hk.1.1.2.2.2, ⟨hk.1.2, hk.2⟩⟩⟩⟩⟩)), (by (with_reducible repeat (first | apply Kd.R_alloc | apply Kd.R_drewN | apply Kd.R_drew)); exact Kd.R_mono HO330.out (fun _ hk => ⟨hk.1.1.1.1.1.2, ⟨hk.1.1.1.1.2, ⟨hk.1.1.1.2, ⟨hk.1.1.2, ⟨hk.1.2, hk.2⟩⟩⟩⟩⟩)), (by (with_reducible repeat (first | apply Kd.R_alloc | apply Kd.R_drewN | apply Kd.R_drew)); exact Kd.R_mono HO338.out (fun _ hk => ⟨hk.1.1.1.1.1.2, ⟨hk.1.1.1.1.2, ⟨hk.1.1.1.2, ⟨hk.1.1.2, ⟨hk.1.2, hk.2⟩⟩⟩⟩⟩)), (by (with_reducible repeat (first | refine blk_drewN ?_ _ | refine blk_drew ?_ | refine blk_alloc ?_ _)); exact BK291.out), (by (with_reducible repeat (first | refine blk_drewN ?_ _ | refine blk_drew ?_ | refine blk_alloc ?_ _)); exact BK304.out), (by (with_reducible repeat (first | refine blk_drewN ?_ _ | refine blk_drew ?_ | refine blk_alloc ?_ _)); exact BK316.out), (by (with_reducible repeat (first | refine blk_drewN ?_ _ | refine blk_drew ?_ | refine blk_alloc ?_ _)); exact BK339.out), GW339.out, GE339.out, NB291_339.out, NB339_291.out, NB304_339.out, NB339_304.out, NB316_339.out, NB339_316.out, (by repeat (first | (with_reducible first | exact HB.out | apply below_alloc | apply pw_below_drewN | apply below_drew1 | refine below_set ?_ GE291.out | refine below_set ?_ GE304.out | refine below_set ?_ GE316.out | refine below_set ?_ GE339.out) | exact HB.out))⟩)
              ·skip
               refine box_step ?hg (N := 12) ?hd (cs := #[.int .i64 0, .slice none 0 0]) (t := 59) ?hr ?_; (case hd => rfl); (case hg => rfl); (case hr => first | (go_simp; done) | (go_simp; rfl))
               intro gb339 hg w71 hbox hb
               have n0_ := Aside0.mk (Kd.R_below (by (with_reducible repeat (first | apply Kd.R_alloc | apply Kd.R_drewN | apply Kd.R_drew)); exact HO295.out) hb)
               have n1_ := Aside0.mk (Kd.R_below (by (with_reducible repeat (first | apply Kd.R_alloc | apply Kd.R_drewN | apply Kd.R_drew)); exact HO303.out) hb)
               have n2_ := Aside0.mk (Kd.R_below (by (with_reducible repeat (first | apply Kd.R_alloc | apply Kd.R_drewN | apply Kd.R_drew)); exact HO307.out) hb)
               have n3_ := Aside0.mk (Kd.R_below (by (with_reducible repeat (first | apply Kd.R_alloc | apply Kd.R_drewN | apply Kd.R_drew)); exact HO315.out) hb)
               have n4_ := Aside0.mk (Kd.R_below (by (with_reducible repeat (first | apply Kd.R_alloc | apply Kd.R_drewN | apply Kd.R_drew)); exact HO320.out) hb)
               have n5_ := Aside0.mk (Kd.R_below (by (with_reducible repeat (first | apply Kd.R_alloc | apply Kd.R_drewN | apply Kd.R_drew)); exact HO330.out) hb)
               have n6_ := Aside0.mk (blkb hb BK291.out)
               have n7_ := Aside0.mk (blkb hb BK304.out)
               have n8_ := Aside0.mk (blkb hb BK316.out)
               have n9_ := Aside0.mk (below_step (by repeat (first | (with_reducible first | exact HB.out | apply below_alloc | apply pw_below_drewN | apply below_drew1 | refine below_set ?_ GE291.out | refine below_set ?_ GE304.out | refine below_set ?_ GE316.out) | exact HB.out)) hb)
               have n10_ := Aside0.mk (hbox)
               have n11_ := Aside0.mk ((by rw [hg]; exact (below_size (by repeat (first | (with_reducible first | exact HB.out | apply below_alloc | apply pw_below_drewN | apply below_drew1 | refine below_set ?_ GE291.out | refine below_set ?_ GE304.out | refine below_set ?_ GE316.out) | exact HB.out))) : w.heap.size ≤ gb339))
               have n12_ := Aside0.mk ((by rw [hg]; exact (below_size (by repeat (first | (with_reducible first | exact HB.out | apply below_alloc | apply pw_below_drewN | apply below_drew1 | refine below_set ?_ GE291.out | refine below_set ?_ GE304.out | refine below_set ?_ GE316.out) | exact HB.out))) : w.heap.size ≤ gb339))
               have n13_ := Aside0.mk ((blkn hg BK291.out))
               have n14_ := Aside0.mk ((blkm hg BK291.out))
               have n15_ := Aside0.mk ((blkn hg BK304.out))
               have n16_ := Aside0.mk ((blkm hg BK304.out))
               have n17_ := Aside0.mk ((blkn hg BK316.out))
               have n18_ := Aside0.mk ((blkm hg BK316.out))
               clear HO295
               clear HO303
               clear HO307
               clear HO315
               clear HO320
               clear HO330
               clear BK291
               clear BK304
               clear BK316
               clear HB
               have HO295 := n0_
               have HO303 := n1_
               have HO307 := n2_
               have HO315 := n3_
               have HO320 := n4_
               have HO330 := n5_
               have BK291 := n6_
               have BK304 := n7_
               have BK316 := n8_
               have HB := n9_
               have BK339 := n10_
               have GW339 := n11_
               have GE339 := n12_
               have NB291_339 := n13_
               have NB339_291 := n14_
               have NB304_339 := n15_
               have NB339_304 := n16_
               have NB316_339 := n17_
               have NB339_316 := n18_
               clear n0_ n1_ n2_ n3_ n4_ n5_ n6_ n7_ n8_ n9_ n10_ n11_ n12_ n13_ n14_ n15_ n16_ n17_ n18_
               clear hb hbox hg
               obtain ⟨Ao72, co72, eo72⟩ := Kd.R_slice HO330.out
               (first | subst eo72 | (injection eo72 with f1_ f2_ f3_; have f4_ := f1_.symm; have f5_ := f3_.symm; clear f1_ f2_ f3_; subst f4_; subst f5_))
               refine hK.out _ _ ⟨(blk_cell BK291.out 0).trans rfl, (blk_cell BK291.out 1).trans rfl, (blk_cell BK291.out 2).trans rfl, (blk_cell BK291.out 3).trans rfl⟩ (fun hHeld => ?_)
               clear hK K
               refine norm_ (a' := ?_) ?_ ?_
               rotate_left
               ·show Act.put _ (some 12) _ = _
                simp only [Act.put, List.setIfInBounds_toArray, List.set_cons_zero, List.set_cons_succ, i64_w, i32_w]
                rfl
               refine one_ (i := 4) (N := some 64) #[true, true, true, true, true, true, false] rfl rfl (by kernel_rfl) (by decide) (fun K hK => ?_)
               refine goes_ Try.func27 (by kernel_rfl) rfl #[.slice Ao72 t328.length co72, .agg #[.int .i64 t331, .int .i64 t332, .int .i64 t333, .int .i64 t334]] (by rfl) rfl rfl (by (try simp only [List.map_toArray, List.map_cons, List.map_nil]); first | done | rfl | (simp only [List.length_drop, List.length_take]; rfl)) ?_
               with_reducible refine (impl_PutBind.calls k _ _ t328 t331 t332 t333 t334 t335 t336 _ ?side1 ?side2 A27.out).mono ?_
               (case side1 => repeat (first | exact (Kd.R_reads' HO330.out).2.2 | (with_reducible refine Kd.C_alloc ?_ _) | (with_reducible refine Kd.C_drewN ?_ _) | (with_reducible refine Kd.C_drew ?_)))
               (case side2 => exact (Kd.R_reads' HO330.out).2.1)
               rintro e w73 ⟨v337, rfl, ho0, hb⟩
               refine ⟨_, rfl, ?_⟩
               have n0_ := Aside0.mk (Kd.R_elder' (by (with_reducible repeat (first | apply Kd.R_alloc | apply Kd.R_drewN | apply Kd.R_drew)); exact HO295.out) (Kd.R_base ho0) hb)
               have n1_ := Aside0.mk (Kd.R_elder' (by (with_reducible repeat (first | apply Kd.R_alloc | apply Kd.R_drewN | apply Kd.R_drew)); exact HO303.out) (Kd.R_base ho0) hb)
               have n2_ := Aside0.mk (Kd.R_elder' (by (with_reducible repeat (first | apply Kd.R_alloc | apply Kd.R_drewN | apply Kd.R_drew)); exact HO307.out) (Kd.R_base ho0) hb)
               have n3_ := Aside0.mk (Kd.R_elder' (by (with_reducible repeat (first | apply Kd.R_alloc | apply Kd.R_drewN | apply Kd.R_drew)); exact HO315.out) (Kd.R_base ho0) hb)
               have n4_ := Aside0.mk (Kd.R_elder' (by (with_reducible repeat (first | apply Kd.R_alloc | apply Kd.R_drewN | apply Kd.R_drew)); exact HO320.out) (Kd.R_base ho0) hb)
               have n5_ := Aside0.mk (Kd.R_elder' (by (with_reducible repeat (first | apply Kd.R_alloc | apply Kd.R_drewN | apply Kd.R_drew)); exact HO330.out) (Kd.R_base ho0) hb)
               have n6_ := Aside0.mk (Kd.R_lower (Kd.R_new' (Kd.R_new' (Kd.R_new' (Kd.R_new' (Kd.R_new' (Kd.R_new' ho0 (Kd.R_lt (by (with_reducible repeat (first | apply Kd.R_alloc | apply Kd.R_drewN | apply Kd.R_drew)); exact HO295.out))) (Kd.R_lt (by (with_reducible repeat (first | apply Kd.R_alloc | apply Kd.R_drewN | apply Kd.R_drew)); exact HO303.out))) (Kd.R_lt (by (with_reducible repeat (first | apply Kd.R_alloc | apply Kd.R_drewN | apply Kd.R_drew)); exact HO307.out))) (Kd.R_lt (by (with_reducible repeat (first | apply Kd.R_alloc | apply Kd.R_drewN | apply Kd.R_drew)); exact HO315.out))) (Kd.R_lt (by (with_reducible repeat (first | apply Kd.R_alloc | apply Kd.R_drewN | apply Kd.R_drew)); exact HO320.out))) (Kd.R_lt (by (with_reducible repeat (first | apply Kd.R_alloc | apply Kd.R_drewN | apply Kd.R_drew)); exact HO330.out))) (below_size (by repeat (first | (with_reducible first | exact HB.out | apply below_alloc | apply pw_below_drewN | apply below_drew1 | refine below_set ?_ GE291.out | refine below_set ?_ GE304.out | refine below_set ?_ GE316.out | refine below_set ?_ GE339.out) | exact HB.out))))
               have n7_ := Aside0.mk (blkb hb BK291.out)
               have n8_ := Aside0.mk (blkb hb BK304.out)
               have n9_ := Aside0.mk (blkb hb BK316.out)
               have n10_ := Aside0.mk (blkb hb BK339.out)
               have n11_ := Aside0.mk (below_step (by repeat (first | (with_reducible first | exact HB.out | apply below_alloc | apply pw_below_drewN | apply below_drew1 | refine below_set ?_ GE291.out | refine below_set ?_ GE304.out | refine below_set ?_ GE316.out | refine below_set ?_ GE339.out) | exact HB.out)) hb)
               clear HO295
               clear HO303
               clear HO307
               clear HO315
               clear HO320
               clear HO330
               clear BK291
               clear BK304
               clear BK316
               clear BK339
               clear HB
               have HO295 := n0_
               have HO303 := n1_
               have HO307 := n2_
               have HO315 := n3_
               have HO320 := n4_
               have HO330 := n5_
               have HO338 := n6_
               have BK291 := n7_
               have BK304 := n8_
               have BK316 := n9_
               have BK339 := n10_
               have HB := n11_
               clear n0_ n1_ n2_ n3_ n4_ n5_ n6_ n7_ n8_ n9_ n10_ n11_
               (try clear hb)
               (try clear hb2)
               (try clear hk)
               (try clear hi)
               (try clear ho0)
               refine hK.out _ _ ⟨(blk_cell BK291.out 0).trans rfl, (blk_cell BK291.out 1).trans rfl, (blk_cell BK291.out 2).trans rfl, (blk_cell BK291.out 3).trans rfl⟩ (fun hHeld => ?_)
               clear hK K
               refine norm_ (a' := ?_) ?_ ?_
               rotate_left
               ·show Act.put _ (some 64) _ = _
                simp only [Act.put, List.setIfInBounds_toArray, List.set_cons_zero, List.set_cons_succ, i64_w, i32_w]
                rfl
               exact norm_ (by simp only [putAll, Act.put, List.setIfInBounds_toArray, List.set_cons_zero, List.set_cons_succ]) (hCont (.slice Ao72 t328.length co72, v337, gb339) _ ⟨hHeld, (by (with_reducible repeat (first | apply Kd.R_alloc | apply Kd.R_drewN | apply Kd.R_drew)); exact Kd.R_mono HO295.out (fun _ hk => ⟨hk.1.1.1, ⟨hk.1.1.2.1, ⟨hk.1.1.2.2.1, ⟨hk.1.1.2.2.2, ⟨hk.1.2, hk.2⟩⟩⟩⟩⟩)), (by (with_reducible repeat (first | apply Kd.R_alloc | apply Kd.R_drewN | apply Kd.R_drew)); exact Kd.R_mono HO303.out (fun _ hk => ⟨hk.1.1.1, ⟨hk.1.1.2.1, ⟨hk.1.1.2.2.1, ⟨hk.1.1.2.2.2, ⟨hk.1.2, hk.2⟩⟩⟩⟩⟩)), (by (with_reducible repeat (first | apply Kd.R_alloc | apply Kd.R_drewN | apply Kd.R_drew)); exact Kd.R_mono HO307.out (fun _ hk => ⟨hk.1.1.1, ⟨hk.1.1.2.1, ⟨hk.1.1.2.2.1, ⟨hk.1.1.2.2.2, ⟨hk.1.2, hk.2⟩⟩⟩⟩⟩)), (by (with_reducible repeat (first | apply Kd.R_alloc | apply Kd.R_drewN | apply Kd.R_drew)); exact Kd.R_mono HO315.out (fun _ hk => ⟨hk.1.1.1, ⟨hk.1.1.2.1, ⟨hk.1.1.2.2.1, ⟨hk.1.1.2.2.2, ⟨hk.1.2, hk.2⟩⟩⟩⟩⟩)), (by (with_reducible repeat (first | apply Kd.R_alloc | apply Kd.R_drewN | apply Kd.R_drew)); exact Kd.R_mono HO320.out (fun _ hk => ⟨hk.1.1.1, ⟨hk.1.1.2.1, ⟨hk.1.1.2.2.1, ⟨hk.1.1.2.2.2, ⟨hk.1.2, hk.2⟩⟩⟩⟩⟩)), (by (with_reducible repeat (first | apply Kd.R_alloc | apply Kd.R_drewN | apply Kd.R_drew)); exact Kd.R_mono HO330.out (fun _ hk => ⟨hk.1.1.1.1.1.2, ⟨hk.1.1.1.1.2, ⟨hk.1.1.1.2, ⟨hk.1.1.2, ⟨hk.1.2, hk.2⟩⟩⟩⟩⟩)), (by (with_reducible repeat (first | apply Kd.R_alloc | apply Kd.R_drewN | apply Kd.R_drew)); exact Kd.R_mono HO338.out (fun _ hk => ⟨hk.1.1.1.1.1.2, ⟨hk.1.1.1.1.2, ⟨hk.1.1.1.2, ⟨hk.1.1.2, ⟨hk.1.2, hk.2⟩⟩⟩⟩⟩)), (by (with_reducible repeat (first | refine blk_drewN ?_ _ | refine blk_drew ?_ | refine blk_alloc ?_ _)); exact BK291.out), (by (with_reducible repeat (first | refine blk_drewN ?_ _ | refine blk_drew ?_ | refine blk_alloc ?_ _)); exact BK304.out), (by (with_reducible repeat (first | refine blk_drewN ?_ _ | refine blk_drew ?_ | refine blk_alloc ?_ _)); exact BK316.out), (by (with_reducible repeat (first | refine blk_drewN ?_ _ | refine blk_drew ?_ | refine blk_alloc ?_ _)); exact BK339.out), GW339.out, GE339.out, NB291_339.out, NB339_291.out, NB304_339.out, NB339_304.out, NB316_339.out, NB339_316.out, (by repeat (first | (with_reducible first | exact HB.out | apply below_alloc | apply pw_below_drewN | apply below_drew1 | refine below_set ?_ GE291.out | refine below_set ?_ GE304.out | refine below_set ?_ GE316.out | refine below_set ?_ GE339.out) | exact HB.out))⟩)
             ·skip
              refine box_step ?hg (N := 12) ?hd (cs := #[.int .i64 0, .slice none 0 0]) (t := 59) ?hr ?_; (case hd => rfl); (case hg => rfl); (case hr => first | (go_simp; done) | (go_simp; rfl))
              intro gb339 hg w70 hbox hb
              have n0_ := Aside0.mk (Kd.R_below (by (with_reducible repeat (first | apply Kd.R_alloc | apply Kd.R_drewN | apply Kd.R_drew)); exact HO295.out) hb)
              have n1_ := Aside0.mk (Kd.R_below (by (with_reducible repeat (first | apply Kd.R_alloc | apply Kd.R_drewN | apply Kd.R_drew)); exact HO303.out) hb)
              have n2_ := Aside0.mk (Kd.R_below (by (with_reducible repeat (first | apply Kd.R_alloc | apply Kd.R_drewN | apply Kd.R_drew)); exact HO307.out) hb)
              have n3_ := Aside0.mk (Kd.R_below (by (with_reducible repeat (first | apply Kd.R_alloc | apply Kd.R_drewN | apply Kd.R_drew)); exact HO315.out) hb)
              have n4_ := Aside0.mk (Kd.R_below (by (with_reducible repeat (first | apply Kd.R_alloc | apply Kd.R_drewN | apply Kd.R_drew)); exact HO320.out) hb)
              have n5_ := Aside0.mk (Kd.R_below (by (with_reducible repeat (first | apply Kd.R_alloc | apply Kd.R_drewN | apply Kd.R_drew)); exact HO330.out) hb)
              have n6_ := Aside0.mk (blkb hb BK291.out)
              have n7_ := Aside0.mk (blkb hb BK304.out)
              have n8_ := Aside0.mk (blkb hb BK316.out)
              have n9_ := Aside0.mk (below_step (by repeat (first | (with_reducible first | exact HB.out | apply below_alloc | apply pw_below_drewN | apply below_drew1 | refine below_set ?_ GE291.out | refine below_set ?_ GE304.out | refine below_set ?_ GE316.out) | exact HB.out)) hb)
              have n10_ := Aside0.mk (hbox)
              have n11_ := Aside0.mk ((by rw [hg]; exact (below_size (by repeat (first | (with_reducible first | exact HB.out | apply below_alloc | apply pw_below_drewN | apply below_drew1 | refine below_set ?_ GE291.out | refine below_set ?_ GE304.out | refine below_set ?_ GE316.out) | exact HB.out))) : w.heap.size ≤ gb339))
              have n12_ := Aside0.mk ((by rw [hg]; exact (below_size (by repeat (first | (with_reducible first | exact HB.out | apply below_alloc | apply pw_below_drewN | apply below_drew1 | refine below_set ?_ GE291.out | refine below_set ?_ GE304.out | refine below_set ?_ GE316.out) | exact HB.out))) : w.heap.size ≤ gb339))
              have n13_ := Aside0.mk ((blkn hg BK291.out))
              have n14_ := Aside0.mk ((blkm hg BK291.out))
              have n15_ := Aside0.mk ((blkn hg BK304.out))
              have n16_ := Aside0.mk ((blkm hg BK304.out))
              have n17_ := Aside0.mk ((blkn hg BK316.out))
              have n18_ := Aside0.mk ((blkm hg BK316.out))
              clear HO295
              clear HO303
              clear HO307
              clear HO315
              clear HO320
              clear HO330
              clear BK291
              clear BK304
              clear BK316
              clear HB
              have HO295 := n0_
              have HO303 := n1_
              have HO307 := n2_
              have HO315 := n3_
              have HO320 := n4_
              have HO330 := n5_
              have BK291 := n6_
              have BK304 := n7_
              have BK316 := n8_
              have HB := n9_
              have BK339 := n10_
              have GW339 := n11_
              have GE339 := n12_
              have NB291_339 := n13_
              have NB339_291 := n14_
              have NB304_339 := n15_
              have NB339_304 := n16_
              have NB316_339 := n17_
              have NB339_316 := n18_
              clear n0_ n1_ n2_ n3_ n4_ n5_ n6_ n7_ n8_ n9_ n10_ n11_ n12_ n13_ n14_ n15_ n16_ n17_ n18_
              clear hb hbox hg
              refine hK.out _ _ ⟨(blk_cell BK291.out 0).trans rfl, (blk_cell BK291.out 1).trans rfl, (blk_cell BK291.out 2).trans rfl, (blk_cell BK291.out 3).trans rfl⟩ (fun hHeld => ?_)
              clear hK K
              refine norm_ (a' := ?_) ?_ ?_
              rotate_left
              ·show Act.put _ (some 12) _ = _
               simp only [Act.put, List.setIfInBounds_toArray, List.set_cons_zero, List.set_cons_succ, i64_w, i32_w]
               rfl
              refine one_ (i := 3) (N := some 63) #[true, true, true, true, false, true, false] rfl rfl (by kernel_rfl) (by decide) (fun K hK => ?_)
              refine goes_ Try.func26 (by kernel_rfl) rfl #[.agg #[.int .i64 a1_0, .int .i64 a1_1, .int .i64 a1_2, .int .i64 a1_3]] (by rfl) rfl rfl (by (try simp only [List.map_toArray, List.map_cons, List.map_nil]); first | done | rfl | (simp only [List.length_drop, List.length_take]; rfl)) ?_
              with_reducible refine (laws_toBind.calls a1_0 a1_1 a1_2 a1_3 t331 t332 t333 t334 _ A26.out).mono ?_
              rintro e w71 ⟨rfl, hb⟩
              refine ⟨_, rfl, ?_⟩
              have n0_ := Aside0.mk (Kd.R_below (by (with_reducible repeat (first | apply Kd.R_alloc | apply Kd.R_drewN | apply Kd.R_drew)); exact HO295.out) hb)
              have n1_ := Aside0.mk (Kd.R_below (by (with_reducible repeat (first | apply Kd.R_alloc | apply Kd.R_drewN | apply Kd.R_drew)); exact HO303.out) hb)
              have n2_ := Aside0.mk (Kd.R_below (by (with_reducible repeat (first | apply Kd.R_alloc | apply Kd.R_drewN | apply Kd.R_drew)); exact HO307.out) hb)
              have n3_ := Aside0.mk (Kd.R_below (by (with_reducible repeat (first | apply Kd.R_alloc | apply Kd.R_drewN | apply Kd.R_drew)); exact HO315.out) hb)
              have n4_ := Aside0.mk (Kd.R_below (by (with_reducible repeat (first | apply Kd.R_alloc | apply Kd.R_drewN | apply Kd.R_drew)); exact HO320.out) hb)
              have n5_ := Aside0.mk (Kd.R_below (by (with_reducible repeat (first | apply Kd.R_alloc | apply Kd.R_drewN | apply Kd.R_drew)); exact HO330.out) hb)
              have n6_ := Aside0.mk (blkb hb BK291.out)
              have n7_ := Aside0.mk (blkb hb BK304.out)
              have n8_ := Aside0.mk (blkb hb BK316.out)
              have n9_ := Aside0.mk (blkb hb BK339.out)
              have n10_ := Aside0.mk (below_step (by repeat (first | (with_reducible first | exact HB.out | apply below_alloc | apply pw_below_drewN | apply below_drew1 | refine below_set ?_ GE291.out | refine below_set ?_ GE304.out | refine below_set ?_ GE316.out | refine below_set ?_ GE339.out) | exact HB.out)) hb)
              clear HO295
              clear HO303
              clear HO307
              clear HO315
              clear HO320
              clear HO330
              clear BK291
              clear BK304
              clear BK316
              clear BK339
              clear HB
              have HO295 := n0_
              have HO303 := n1_
              have HO307 := n2_
              have HO315 := n3_
              have HO320 := n4_
              have HO330 := n5_
              have BK291 := n6_
              have BK304 := n7_
              have BK316 := n8_
              have BK339 := n9_
              have HB := n10_
              clear n0_ n1_ n2_ n3_ n4_ n5_ n6_ n7_ n8_ n9_ n10_
              (try clear hb)
              (try clear hb2)
              (try clear hk)
              (try clear hi)
              obtain ⟨Ao72, co72, eo72⟩ := Kd.R_slice HO330.out
              (first | subst eo72 | (injection eo72 with f1_ f2_ f3_; have f4_ := f1_.symm; have f5_ := f3_.symm; clear f1_ f2_ f3_; subst f4_; subst f5_))
              refine hK.out _ _ ⟨(blk_cell BK291.out 0).trans rfl, (blk_cell BK291.out 1).trans rfl, (blk_cell BK291.out 2).trans rfl, (blk_cell BK291.out 3).trans rfl⟩ (fun hHeld => ?_)
              clear hK K
              refine norm_ (a' := ?_) ?_ ?_
              rotate_left
              ·show Act.put _ (some 63) _ = _
               simp only [Act.put, List.setIfInBounds_toArray, List.set_cons_zero, List.set_cons_succ, i64_w, i32_w]
               rfl
              refine one_ (i := 4) (N := some 64) #[true, true, true, true, true, true, false] rfl rfl (by kernel_rfl) (by decide) (fun K hK => ?_)
              refine goes_ Try.func27 (by kernel_rfl) rfl #[.slice Ao72 t328.length co72, .agg #[.int .i64 t331, .int .i64 t332, .int .i64 t333, .int .i64 t334]] (by rfl) rfl rfl (by (try simp only [List.map_toArray, List.map_cons, List.map_nil]); first | done | rfl | (simp only [List.length_drop, List.length_take]; rfl)) ?_
              with_reducible refine (impl_PutBind.calls k _ _ t328 t331 t332 t333 t334 t335 t336 _ ?side1 ?side2 A27.out).mono ?_
              (case side1 => repeat (first | exact (Kd.R_reads' HO330.out).2.2 | (with_reducible refine Kd.C_alloc ?_ _) | (with_reducible refine Kd.C_drewN ?_ _) | (with_reducible refine Kd.C_drew ?_)))
              (case side2 => exact (Kd.R_reads' HO330.out).2.1)
              rintro e w73 ⟨v337, rfl, ho0, hb⟩
              refine ⟨_, rfl, ?_⟩
              have n0_ := Aside0.mk (Kd.R_elder' (by (with_reducible repeat (first | apply Kd.R_alloc | apply Kd.R_drewN | apply Kd.R_drew)); exact HO295.out) (Kd.R_base ho0) hb)
              have n1_ := Aside0.mk (Kd.R_elder' (by (with_reducible repeat (first | apply Kd.R_alloc | apply Kd.R_drewN | apply Kd.R_drew)); exact HO303.out) (Kd.R_base ho0) hb)
              have n2_ := Aside0.mk (Kd.R_elder' (by (with_reducible repeat (first | apply Kd.R_alloc | apply Kd.R_drewN | apply Kd.R_drew)); exact HO307.out) (Kd.R_base ho0) hb)
              have n3_ := Aside0.mk (Kd.R_elder' (by (with_reducible repeat (first | apply Kd.R_alloc | apply Kd.R_drewN | apply Kd.R_drew)); exact HO315.out) (Kd.R_base ho0) hb)
              have n4_ := Aside0.mk (Kd.R_elder' (by (with_reducible repeat (first | apply Kd.R_alloc | apply Kd.R_drewN | apply Kd.R_drew)); exact HO320.out) (Kd.R_base ho0) hb)
              have n5_ := Aside0.mk (Kd.R_elder' (by (with_reducible repeat (first | apply Kd.R_alloc | apply Kd.R_drewN | apply Kd.R_drew)); exact HO330.out) (Kd.R_base ho0) hb)
              have n6_ := Aside0.mk (Kd.R_lower (Kd.R_new' (Kd.R_new' (Kd.R_new' (Kd.R_new' (Kd.R_new' (Kd.R_new' ho0 (Kd.R_lt (by (with_reducible repeat (first | apply Kd.R_alloc | apply Kd.R_drewN | apply Kd.R_drew)); exact HO295.out))) (Kd.R_lt (by (with_reducible repeat (first | apply Kd.R_alloc | apply Kd.R_drewN | apply Kd.R_drew)); exact HO303.out))) (Kd.R_lt (by (with_reducible repeat (first | apply Kd.R_alloc | apply Kd.R_drewN | apply Kd.R_drew)); exact HO307.out))) (Kd.R_lt (by (with_reducible repeat (first | apply Kd.R_alloc | apply Kd.R_drewN | apply Kd.R_drew)); exact HO315.out))) (Kd.R_lt (by (with_reducible repeat (first | apply Kd.R_alloc | apply Kd.R_drewN | apply Kd.R_drew)); exact HO320.out))) (Kd.R_lt (by (with_reducible repeat (first | apply Kd.R_alloc | apply Kd.R_drewN | apply Kd.R_drew)); exact HO330.out))) (below_size (by repeat (first | (with_reducible first | exact HB.out | apply below_alloc | apply pw_below_drewN | apply below_drew1 | refine below_set ?_ GE291.out | refine below_set ?_ GE304.out | refine below_set ?_ GE316.out | refine below_set ?_ GE339.out) | exact HB.out))))
              have n7_ := Aside0.mk (blkb hb BK291.out)
              have n8_ := Aside0.mk (blkb hb BK304.out)
              have n9_ := Aside0.mk (blkb hb BK316.out)
              have n10_ := Aside0.mk (blkb hb BK339.out)
              have n11_ := Aside0.mk (below_step (by repeat (first | (with_reducible first | exact HB.out | apply below_alloc | apply pw_below_drewN | apply below_drew1 | refine below_set ?_ GE291.out | refine below_set ?_ GE304.out | refine below_set ?_ GE316.out | refine below_set ?_ GE339.out) | exact HB.out)) hb)
              clear HO295
              clear HO303
              clear HO307
              clear HO315
              clear HO320
              clear HO330
              clear BK291
              clear BK304
              clear BK316
              clear BK339
              clear HB
              have HO295 := n0_
              have HO303 := n1_
              have HO307 := n2_
              have HO315 := n3_
              have HO320 := n4_
              have HO330 := n5_
              have HO338 := n6_
              have BK291 := n7_
              have BK304 := n8_
              have BK316 := n9_
              have BK339 := n10_
              have HB := n11_
              clear n0_ n1_ n2_ n3_ n4_ n5_ n6_ n7_ n8_ n9_ n10_ n11_
              (try clear hb)
              (try clear hb2)
              (try clear hk)
              (try clear hi)
              (try clear ho0)
              refine hK.out _ _ ⟨(blk_cell BK291.out 0).trans rfl, (blk_cell BK291.out 1).trans rfl, (blk_cell BK291.out 2).trans rfl, (blk_cell BK291.out 3).trans rfl⟩ (fun hHeld => ?_)
              clear hK K
              refine norm_ (a' := ?_) ?_ ?_
              rotate_left
              ·show Act.put _ (some 64) _ = _
               simp only [Act.put, List.setIfInBounds_toArray, List.set_cons_zero, List.set_cons_succ, i64_w, i32_w]
               rfl
              exact norm_ (by simp only [putAll, Act.put, List.setIfInBounds_toArray, List.set_cons_zero, List.set_cons_succ]) (hCont (.slice Ao72 t328.length co72, v337, gb339) _ ⟨hHeld, (by (with_reducible repeat (first | apply Kd.R_alloc | apply Kd.R_drewN | apply Kd.R_drew)); exact Kd.R_mono HO295.out (fun _ hk => ⟨hk.1.1.1, ⟨hk.1.1.2.1, ⟨hk.1.1.2.2.1, ⟨hk.1.1.2.2.2, ⟨hk.1.2, hk.2⟩⟩⟩⟩⟩)), (by (with_reducible repeat (first | apply Kd.R_alloc | apply Kd.R_drewN | apply Kd.R_drew)); exact Kd.R_mono HO303.out (fun _ hk => ⟨hk.1.1.1, ⟨hk.1.1.2.1, ⟨hk.1.1.2.2.1, ⟨hk.1.1.2.2.2, ⟨hk.1.2, hk.2⟩⟩⟩⟩⟩)), (by (with_reducible repeat (first | apply Kd.R_alloc | apply Kd.R_drewN | apply Kd.R_drew)); exact Kd.R_mono HO307.out (fun _ hk => ⟨hk.1.1.1, ⟨hk.1.1.2.1, ⟨hk.1.1.2.2.1, ⟨hk.1.1.2.2.2, ⟨hk.1.2, hk.2⟩⟩⟩⟩⟩)), (by (with_reducible repeat (first | apply Kd.R_alloc | apply Kd.R_drewN | apply Kd.R_drew)); exact Kd.R_mono HO315.out (fun _ hk => ⟨hk.1.1.1, ⟨hk.1.1.2.1, ⟨hk.1.1.2.2.1, ⟨hk.1.1.2.2.2, ⟨hk.1.2, hk.2⟩⟩⟩⟩⟩)), (by (with_reducible repeat (first | apply Kd.R_alloc | apply Kd.R_drewN | apply Kd.R_drew)); exact Kd.R_mono HO320.out (fun _ hk => ⟨hk.1.1.1, ⟨hk.1.1.2.1, ⟨hk.1.1.2.2.1, ⟨hk.1.1.2.2.2, ⟨hk.1.2, hk.2⟩⟩⟩⟩⟩)), (by (with_reducible repeat (first | apply Kd.R_alloc | apply Kd.R_drewN | apply Kd.R_drew)); exact Kd.R_mono HO330.out (fun _ hk => ⟨hk.1.1.1.1.1.2, ⟨hk.1.1.1.1.2, ⟨hk.1.1.1.2, ⟨hk.1.1.2, ⟨hk.1.2, hk.2⟩⟩⟩⟩⟩)), (by (with_reducible repeat (first | apply Kd.R_alloc | apply Kd.R_drewN | apply Kd.R_drew)); exact Kd.R_mono HO338.out (fun _ hk => ⟨hk.1.1.1.1.1.2, ⟨hk.1.1.1.1.2, ⟨hk.1.1.1.2, ⟨hk.1.1.2, ⟨hk.1.2, hk.2⟩⟩⟩⟩⟩)), (by (with_reducible repeat (first | refine blk_drewN ?_ _ | refine blk_drew ?_ | refine blk_alloc ?_ _)); exact BK291.out), (by (with_reducible repeat (first | refine blk_drewN ?_ _ | refine blk_drew ?_ | refine blk_alloc ?_ _)); exact BK304.out), (by (with_reducible repeat (first | refine blk_drewN ?_ _ | refine blk_drew ?_ | refine blk_alloc ?_ _)); exact BK316.out), (by (with_reducible repeat (first | refine blk_drewN ?_ _ | refine blk_drew ?_ | refine blk_alloc ?_ _)); exact BK339.out), GW339.out, GE339.out, NB291_339.out, NB339_291.out, NB304_339.out, NB339_304.out, NB316_339.out, NB339_316.out, (by repeat (first | (with_reducible first | exact HB.out | apply below_alloc | apply pw_below_drewN | apply below_drew1 | refine below_set ?_ GE291.out | refine below_set ?_ GE304.out | refine below_set ?_ GE316.out | refine below_set ?_ GE339.out) | exact HB.out))⟩)
            ·skip
             refine box_step ?hg (N := 12) ?hd (cs := #[.int .i64 0, .slice none 0 0]) (t := 59) ?hr ?_; (case hd => rfl); (case hg => rfl); (case hr => first | (go_simp; done) | (go_simp; rfl))
             intro gb339 hg w69 hbox hb
             have n0_ := Aside0.mk (Kd.R_below (by (with_reducible repeat (first | apply Kd.R_alloc | apply Kd.R_drewN | apply Kd.R_drew)); exact HO295.out) hb)
             have n1_ := Aside0.mk (Kd.R_below (by (with_reducible repeat (first | apply Kd.R_alloc | apply Kd.R_drewN | apply Kd.R_drew)); exact HO303.out) hb)
             have n2_ := Aside0.mk (Kd.R_below (by (with_reducible repeat (first | apply Kd.R_alloc | apply Kd.R_drewN | apply Kd.R_drew)); exact HO307.out) hb)
             have n3_ := Aside0.mk (Kd.R_below (by (with_reducible repeat (first | apply Kd.R_alloc | apply Kd.R_drewN | apply Kd.R_drew)); exact HO315.out) hb)
             have n4_ := Aside0.mk (Kd.R_below (by (with_reducible repeat (first | apply Kd.R_alloc | apply Kd.R_drewN | apply Kd.R_drew)); exact HO320.out) hb)
             have n5_ := Aside0.mk (blkb hb BK291.out)
             have n6_ := Aside0.mk (blkb hb BK304.out)
             have n7_ := Aside0.mk (blkb hb BK316.out)
             have n8_ := Aside0.mk (below_step (by repeat (first | (with_reducible first | exact HB.out | apply below_alloc | apply pw_below_drewN | apply below_drew1 | refine below_set ?_ GE291.out | refine below_set ?_ GE304.out | refine below_set ?_ GE316.out) | exact HB.out)) hb)
             have n9_ := Aside0.mk (hbox)
             have n10_ := Aside0.mk ((by rw [hg]; exact (below_size (by repeat (first | (with_reducible first | exact HB.out | apply below_alloc | apply pw_below_drewN | apply below_drew1 | refine below_set ?_ GE291.out | refine below_set ?_ GE304.out | refine below_set ?_ GE316.out) | exact HB.out))) : w.heap.size ≤ gb339))
             have n11_ := Aside0.mk ((by rw [hg]; exact (below_size (by repeat (first | (with_reducible first | exact HB.out | apply below_alloc | apply pw_below_drewN | apply below_drew1 | refine below_set ?_ GE291.out | refine below_set ?_ GE304.out | refine below_set ?_ GE316.out) | exact HB.out))) : w.heap.size ≤ gb339))
             have n12_ := Aside0.mk ((blkn hg BK291.out))
             have n13_ := Aside0.mk ((blkm hg BK291.out))
             have n14_ := Aside0.mk ((blkn hg BK304.out))
             have n15_ := Aside0.mk ((blkm hg BK304.out))
             have n16_ := Aside0.mk ((blkn hg BK316.out))
             have n17_ := Aside0.mk ((blkm hg BK316.out))
             clear HO295
             clear HO303
             clear HO307
             clear HO315
             clear HO320
             clear BK291
             clear BK304
             clear BK316
             clear HB
             have HO295 := n0_
             have HO303 := n1_
             have HO307 := n2_
             have HO315 := n3_
             have HO320 := n4_
             have BK291 := n5_
             have BK304 := n6_
             have BK316 := n7_
             have HB := n8_
             have BK339 := n9_
             have GW339 := n10_
             have GE339 := n11_
             have NB291_339 := n12_
             have NB339_291 := n13_
             have NB304_339 := n14_
             have NB339_304 := n15_
             have NB316_339 := n16_
             have NB339_316 := n17_
             clear n0_ n1_ n2_ n3_ n4_ n5_ n6_ n7_ n8_ n9_ n10_ n11_ n12_ n13_ n14_ n15_ n16_ n17_
             clear hb hbox hg
             refine hK.out _ _ ⟨(blk_cell BK291.out 0).trans rfl, (blk_cell BK291.out 1).trans rfl, (blk_cell BK291.out 2).trans rfl, (blk_cell BK291.out 3).trans rfl⟩ (fun hHeld => ?_)
             clear hK K
             refine norm_ (a' := ?_) ?_ ?_
             rotate_left
             ·show Act.put _ (some 12) _ = _
              simp only [Act.put, List.setIfInBounds_toArray, List.set_cons_zero, List.set_cons_succ, i64_w, i32_w]
              rfl
             refine one_ (i := 1) (N := some 61) #[true, true, true, false, false, true, false] rfl rfl (by kernel_rfl) (by decide) (fun K hK => ?_)
             refine goes_ Try.func25 (by kernel_rfl) rfl #[.slice A0 l0.length c0] (by rfl) rfl rfl (by (try simp only [List.map_toArray, List.map_cons, List.map_nil]); first | done | rfl | (simp only [List.length_drop, List.length_take]; rfl)) ?_
             with_reducible refine (laws_toBindS.calls k _ _ l0 t328 _ ?side1 ?side2 A25.out).mono ?_
             (case side1 => repeat (first | exact (Kd.C_below HR0.out HB.out) | (with_reducible refine Kd.C_alloc ?_ _) | (with_reducible refine Kd.C_drewN ?_ _) | (with_reducible refine Kd.C_drew ?_)))
             (case side2 => exact HC0.out)
             rintro e w70 ⟨v329, rfl, ho0, hb⟩
             refine ⟨_, rfl, ?_⟩
             have n0_ := Aside0.mk (Kd.R_elder' (by (with_reducible repeat (first | apply Kd.R_alloc | apply Kd.R_drewN | apply Kd.R_drew)); exact HO295.out) (Kd.R_base ho0) hb)
             have n1_ := Aside0.mk (Kd.R_elder' (by (with_reducible repeat (first | apply Kd.R_alloc | apply Kd.R_drewN | apply Kd.R_drew)); exact HO303.out) (Kd.R_base ho0) hb)
             have n2_ := Aside0.mk (Kd.R_elder' (by (with_reducible repeat (first | apply Kd.R_alloc | apply Kd.R_drewN | apply Kd.R_drew)); exact HO307.out) (Kd.R_base ho0) hb)
             have n3_ := Aside0.mk (Kd.R_elder' (by (with_reducible repeat (first | apply Kd.R_alloc | apply Kd.R_drewN | apply Kd.R_drew)); exact HO315.out) (Kd.R_base ho0) hb)
             have n4_ := Aside0.mk (Kd.R_elder' (by (with_reducible repeat (first | apply Kd.R_alloc | apply Kd.R_drewN | apply Kd.R_drew)); exact HO320.out) (Kd.R_base ho0) hb)
             have n5_ := Aside0.mk (Kd.R_lower (Kd.R_new' (Kd.R_new' (Kd.R_new' (Kd.R_new' (Kd.R_new' ho0 (Kd.R_lt (by (with_reducible repeat (first | apply Kd.R_alloc | apply Kd.R_drewN | apply Kd.R_drew)); exact HO295.out))) (Kd.R_lt (by (with_reducible repeat (first | apply Kd.R_alloc | apply Kd.R_drewN | apply Kd.R_drew)); exact HO303.out))) (Kd.R_lt (by (with_reducible repeat (first | apply Kd.R_alloc | apply Kd.R_drewN | apply Kd.R_drew)); exact HO307.out))) (Kd.R_lt (by (with_reducible repeat (first | apply Kd.R_alloc | apply Kd.R_drewN | apply Kd.R_drew)); exact HO315.out))) (Kd.R_lt (by (with_reducible repeat (first | apply Kd.R_alloc | apply Kd.R_drewN | apply Kd.R_drew)); exact HO320.out))) (below_size (by repeat (first | (with_reducible first | exact HB.out | apply below_alloc | apply pw_below_drewN | apply below_drew1 | refine below_set ?_ GE291.out | refine below_set ?_ GE304.out | refine below_set ?_ GE316.out | refine below_set ?_ GE339.out) | exact HB.out))))
             have n6_ := Aside0.mk (blkb hb BK291.out)
             have n7_ := Aside0.mk (blkb hb BK304.out)
             have n8_ := Aside0.mk (blkb hb BK316.out)
             have n9_ := Aside0.mk (blkb hb BK339.out)
             have n10_ := Aside0.mk (below_step (by repeat (first | (with_reducible first | exact HB.out | apply below_alloc | apply pw_below_drewN | apply below_drew1 | refine below_set ?_ GE291.out | refine below_set ?_ GE304.out | refine below_set ?_ GE316.out | refine below_set ?_ GE339.out) | exact HB.out)) hb)
             clear HO295
             clear HO303
             clear HO307
             clear HO315
             clear HO320
             clear BK291
             clear BK304
             clear BK316
             clear BK339
             clear HB
             have HO295 := n0_
             have HO303 := n1_
             have HO307 := n2_
             have HO315 := n3_
             have HO320 := n4_
             have HO330 := n5_
             have BK291 := n6_
             have BK304 := n7_
             have BK316 := n8_
             have BK339 := n9_
             have HB := n10_
             clear n0_ n1_ n2_ n3_ n4_ n5_ n6_ n7_ n8_ n9_ n10_
             (try clear hb)
             (try clear hb2)
             (try clear hk)
             (try clear hi)
             (try clear ho0)
             refine hK.out _ _ ⟨(blk_cell BK291.out 0).trans rfl, (blk_cell BK291.out 1).trans rfl, (blk_cell BK291.out 2).trans rfl, (blk_cell BK291.out 3).trans rfl⟩ (fun hHeld => ?_)
             clear hK K
             refine norm_ (a' := ?_) ?_ ?_
             rotate_left
             ·show Act.put _ (some 61) _ = _
              simp only [Act.put, List.setIfInBounds_toArray, List.set_cons_zero, List.set_cons_succ, i64_w, i32_w]
              rfl
             refine one_ (i := 3) (N := some 63) #[true, true, true, true, false, true, false] rfl rfl (by kernel_rfl) (by decide) (fun K hK => ?_)
             refine goes_ Try.func26 (by kernel_rfl) rfl #[.agg #[.int .i64 a1_0, .int .i64 a1_1, .int .i64 a1_2, .int .i64 a1_3]] (by rfl) rfl rfl (by (try simp only [List.map_toArray, List.map_cons, List.map_nil]); first | done | rfl | (simp only [List.length_drop, List.length_take]; rfl)) ?_
             with_reducible refine (laws_toBind.calls a1_0 a1_1 a1_2 a1_3 t331 t332 t333 t334 _ A26.out).mono ?_
             rintro e w71 ⟨rfl, hb⟩
             refine ⟨_, rfl, ?_⟩
             have n0_ := Aside0.mk (Kd.R_below (by (with_reducible repeat (first | apply Kd.R_alloc | apply Kd.R_drewN | apply Kd.R_drew)); exact HO295.out) hb)
             have n1_ := Aside0.mk (Kd.R_below (by (with_reducible repeat (first | apply Kd.R_alloc | apply Kd.R_drewN | apply Kd.R_drew)); exact HO303.out) hb)
             have n2_ := Aside0.mk (Kd.R_below (by (with_reducible repeat (first | apply Kd.R_alloc | apply Kd.R_drewN | apply Kd.R_drew)); exact HO307.out) hb)
             have n3_ := Aside0.mk (Kd.R_below (by (with_reducible repeat (first | apply Kd.R_alloc | apply Kd.R_drewN | apply Kd.R_drew)); exact HO315.out) hb)
             have n4_ := Aside0.mk (Kd.R_below (by (with_reducible repeat (first | apply Kd.R_alloc | apply Kd.R_drewN | apply Kd.R_drew)); exact HO320.out) hb)
             have n5_ := Aside0.mk (Kd.R_below (by (with_reducible repeat (first | apply Kd.R_alloc | apply Kd.R_drewN | apply Kd.R_drew)); exact HO330.out) hb)
             have n6_ := Aside0.mk (blkb hb BK291.out)
             have n7_ := Aside0.mk (blkb hb BK304.out)
             have n8_ := Aside0.mk (blkb hb BK316.out)
             have n9_ := Aside0.mk (blkb hb BK339.out)
             have n10_ := Aside0.mk (below_step (by repeat (first | (with_reducible first | exact HB.out | apply below_alloc | apply pw_below_drewN | apply below_drew1 | refine below_set ?_ GE291.out | refine below_set ?_ GE304.out | refine below_set ?_ GE316.out | refine below_set ?_ GE339.out) | exact HB.out)) hb)
             clear HO295
             clear HO303
             clear HO307
             clear HO315
             clear HO320
             clear HO330
             clear BK291
             clear BK304
             clear BK316
             clear BK339
             clear HB
             have HO295 := n0_
             have HO303 := n1_
             have HO307 := n2_
             have HO315 := n3_
             have HO320 := n4_
             have HO330 := n5_
             have BK291 := n6_
             have BK304 := n7_
             have BK316 := n8_
             have BK339 := n9_
             have HB := n10_
             clear n0_ n1_ n2_ n3_ n4_ n5_ n6_ n7_ n8_ n9_ n10_
             (try clear hb)
             (try clear hb2)
             (try clear hk)
             (try clear hi)
             obtain ⟨Ao72, co72, eo72⟩ := Kd.R_slice HO330.out
             (first | subst eo72 | (injection eo72 with f1_ f2_ f3_; have f4_ := f1_.symm; have f5_ := f3_.symm; clear f1_ f2_ f3_; subst f4_; subst f5_))
             refine hK.out _ _ ⟨(blk_cell BK291.out 0).trans rfl, (blk_cell BK291.out 1).trans rfl, (blk_cell BK291.out 2).trans rfl, (blk_cell BK291.out 3).trans rfl⟩ (fun hHeld => ?_)
             clear hK K
             refine norm_ (a' := ?_) ?_ ?_
             rotate_left
             ·show Act.put _ (some 63) _ = _
              simp only [Act.put, List.setIfInBounds_toArray, List.set_cons_zero, List.set_cons_succ, i64_w, i32_w]
              rfl
             refine one_ (i := 4) (N := some 64) #[true, true, true, true, true, true, false] rfl rfl (by kernel_rfl) (by decide) (fun K hK => ?_)
             refine goes_ Try.func27 (by kernel_rfl) rfl #[.slice Ao72 t328.length co72, .agg #[.int .i64 t331, .int .i64 t332, .int .i64 t333, .int .i64 t334]] (by rfl) rfl rfl (by (try simp only [List.map_toArray, List.map_cons, List.map_nil]); first | done | rfl | (simp only [List.length_drop, List.length_take]; rfl)) ?_
             with_reducible refine (impl_PutBind.calls k _ _ t328 t331 t332 t333 t334 t335 t336 _ ?side1 ?side2 A27.out).mono ?_
             (case side1 => repeat (first | exact (Kd.R_reads' HO330.out).2.2 | (with_reducible refine Kd.C_alloc ?_ _) | (with_reducible refine Kd.C_drewN ?_ _) | (with_reducible refine Kd.C_drew ?_)))
             (case side2 => exact (Kd.R_reads' HO330.out).2.1)
             rintro e w73 ⟨v337, rfl, ho0, hb⟩
             refine ⟨_, rfl, ?_⟩
             have n0_ := Aside0.mk (Kd.R_elder' (by (with_reducible repeat (first | apply Kd.R_alloc | apply Kd.R_drewN | apply Kd.R_drew)); exact HO295.out) (Kd.R_base ho0) hb)
             have n1_ := Aside0.mk (Kd.R_elder' (by (with_reducible repeat (first | apply Kd.R_alloc | apply Kd.R_drewN | apply Kd.R_drew)); exact HO303.out) (Kd.R_base ho0) hb)
             have n2_ := Aside0.mk (Kd.R_elder' (by (with_reducible repeat (first | apply Kd.R_alloc | apply Kd.R_drewN | apply Kd.R_drew)); exact HO307.out) (Kd.R_base ho0) hb)
             have n3_ := Aside0.mk (Kd.R_elder' (by (with_reducible repeat (first | apply Kd.R_alloc | apply Kd.R_drewN | apply Kd.R_drew)); exact HO315.out) (Kd.R_base ho0) hb)
             have n4_ := Aside0.mk (Kd.R_elder' (by (with_reducible repeat (first | apply Kd.R_alloc | apply Kd.R_drewN | apply Kd.R_drew)); exact HO320.out) (Kd.R_base ho0) hb)
             have n5_ := Aside0.mk (Kd.R_elder' (by (with_reducible repeat (first | apply Kd.R_alloc | apply Kd.R_drewN | apply Kd.R_drew)); exact HO330.out) (Kd.R_base ho0) hb)
             have n6_ := Aside0.mk (Kd.R_lower (Kd.R_new' (Kd.R_new' (Kd.R_new' (Kd.R_new' (Kd.R_new' (Kd.R_new' ho0 (Kd.R_lt (by (with_reducible repeat (first | apply Kd.R_alloc | apply Kd.R_drewN | apply Kd.R_drew)); exact HO295.out))) (Kd.R_lt (by (with_reducible repeat (first | apply Kd.R_alloc | apply Kd.R_drewN | apply Kd.R_drew)); exact HO303.out))) (Kd.R_lt (by (with_reducible repeat (first | apply Kd.R_alloc | apply Kd.R_drewN | apply Kd.R_drew)); exact HO307.out))) (Kd.R_lt (by (with_reducible repeat (first | apply Kd.R_alloc | apply Kd.R_drewN | apply Kd.R_drew)); exact HO315.out))) (Kd.R_lt (by (with_reducible repeat (first | apply Kd.R_alloc | apply Kd.R_drewN | apply Kd.R_drew)); exact HO320.out))) (Kd.R_lt (by (with_reducible repeat (first | apply Kd.R_alloc | apply Kd.R_drewN | apply Kd.R_drew)); exact HO330.out))) (below_size (by repeat (first | (with_reducible first | exact HB.out | apply below_alloc | apply pw_below_drewN | apply below_drew1 | refine below_set ?_ GE291.out | refine below_set ?_ GE304.out | refine below_set ?_ GE316.out | refine below_set ?_ GE339.out) | exact HB.out))))
             have n7_ := Aside0.mk (blkb hb BK291.out)
             have n8_ := Aside0.mk (blkb hb BK304.out)
             have n9_ := Aside0.mk (blkb hb BK316.out)
             have n10_ := Aside0.mk (blkb hb BK339.out)
             have n11_ := Aside0.mk (below_step (by repeat (first | (with_reducible first | exact HB.out | apply below_alloc | apply pw_below_drewN | apply below_drew1 | refine below_set ?_ GE291.out | refine below_set ?_ GE304.out | refine below_set ?_ GE316.out | refine below_set ?_ GE339.out) | exact HB.out)) hb)
             clear HO295
             clear HO303
             clear HO307
             clear HO315
             clear HO320
             clear HO330
             clear BK291
             clear BK304
             clear BK316
             clear BK339
             clear HB
             have HO295 := n0_
             have HO303 := n1_
             have HO307 := n2_
             have HO315 := n3_
             have HO320 := n4_
             have HO330 := n5_
             have HO338 := n6_
             have BK291 := n7_
             have BK304 := n8_
             have BK316 := n9_
             have BK339 := n10_
             have HB := n11_
             clear n0_ n1_ n2_ n3_ n4_ n5_ n6_ n7_ n8_ n9_ n10_ n11_
             (try clear hb)
             (try clear hb2)
             (try clear hk)
             (try clear hi)
             (try clear ho0)
             refine hK.out _ _ ⟨(blk_cell BK291.out 0).trans rfl, (blk_cell BK291.out 1).trans rfl, (blk_cell BK291.out 2).trans rfl, (blk_cell BK291.out 3).trans rfl⟩ (fun hHeld => ?_)
             clear hK K
             refine norm_ (a' := ?_) ?_ ?_
             rotate_left
             ·show Act.put _ (some 64) _ = _
              simp only [Act.put, List.setIfInBounds_toArray, List.set_cons_zero, List.set_cons_succ, i64_w, i32_w]
              rfl
             exact norm_ (by simp only [putAll, Act.put, List.setIfInBounds_toArray, List.set_cons_zero, List.set_cons_succ]) (hCont (.slice Ao72 t328.length co72, v337, gb339) _ ⟨hHeld, (by (with_reducible repeat (first | apply Kd.R_alloc | apply Kd.R_drewN | apply Kd.R_drew)); exact Kd.R_mono HO295.out (fun _ hk => ⟨hk.1.1.1, ⟨hk.1.1.2.1, ⟨hk.1.1.2.2.1, ⟨hk.1.1.2.2.2, ⟨hk.1.2, hk.2⟩⟩⟩⟩⟩)), (by (with_reducible repeat (first | apply Kd.R_alloc | apply Kd.R_drewN | apply Kd.R_drew)); exact Kd.R_mono HO303.out (fun _ hk => ⟨hk.1.1.1, ⟨hk.1.1.2.1, ⟨hk.1.1.2.2.1, ⟨hk.1.1.2.2.2, ⟨hk.1.2, hk.2⟩⟩⟩⟩⟩)), (by (with_reducible repeat (first | apply Kd.R_alloc | apply Kd.R_drewN | apply Kd.R_drew)); exact Kd.R_mono HO307.out (fun _ hk => ⟨hk.1.1.1, ⟨hk.1.1.2.1, ⟨hk.1.1.2.2.1, ⟨hk.1.1.2.2.2, ⟨hk.1.2, hk.2⟩⟩⟩⟩⟩)), (by (with_reducible repeat (first | apply Kd.R_alloc | apply Kd.R_drewN | apply Kd.R_drew)); exact Kd.R_mono HO315.out (fun _ hk => ⟨hk.1.1.1, ⟨hk.1.1.2.1, ⟨hk.1.1.2.2.1, ⟨hk.1.1.2.2.2, ⟨hk.1.2, hk.2⟩⟩⟩⟩⟩)), (by (with_reducible repeat (first | apply Kd.R_alloc | apply Kd.R_drewN | apply Kd.R_drew)); exact Kd.R_mono HO320.out (fun _ hk => ⟨hk.1.1.1, ⟨hk.1.1.2.1, ⟨hk.1.1.2.2.1, ⟨hk.1.1.2.2.2, ⟨hk.1.2, hk.2⟩⟩⟩⟩⟩)), (by (with_reducible repeat (first | apply Kd.R_alloc | apply Kd.R_drewN | apply Kd.R_drew)); exact Kd.R_mono HO330.out (fun _ hk => ⟨hk.1.1.1.1.1.2, ⟨hk.1.1.1.1.2, ⟨hk.1.1.1.2, ⟨hk.1.1.2, ⟨hk.1.2, hk.2⟩⟩⟩⟩⟩)), (by (with_reducible repeat (first | apply Kd.R_alloc | apply Kd.R_drewN | apply Kd.R_drew)); exact Kd.R_mono HO338.out (fun _ hk => ⟨hk.1.1.1.1.1.2, ⟨hk.1.1.1.1.2, ⟨hk.1.1.1.2, ⟨hk.1.1.2, ⟨hk.1.2, hk.2⟩⟩⟩⟩⟩)), (by (with_reducible repeat (first | refine blk_drewN ?_ _ | refine blk_drew ?_ | refine blk_alloc ?_ _)); exact BK291.out), (by (with_reducible repeat (first | refine blk_drewN ?_ _ | refine blk_drew ?_ | refine blk_alloc ?_ _)); exact BK304.out), (by (with_reducible repeat (first | refine blk_drewN ?_ _ | refine blk_drew ?_ | refine blk_alloc ?_ _)); exact BK316.out), (by (with_reducible repeat (first | refine blk_drewN ?_ _ | refine blk_drew ?_ | refine blk_alloc ?_ _)); exact BK339.out), GW339.out, GE339.out, NB291_339.out, NB339_291.out, NB304_339.out, NB339_304.out, NB316_339.out, NB339_316.out, (by repeat (first | (with_reducible first | exact HB.out | apply below_alloc | apply pw_below_drewN | apply below_drew1 | refine below_set ?_ GE291.out | refine below_set ?_ GE304.out | refine below_set ?_ GE316.out | refine below_set ?_ GE339.out) | exact HB.out))⟩)
           rintro ⟨v329, v337, gb339⟩ w74 ⟨hS_, h0_, h1_, h2_, h3_, h4_, h5_, h6_, h7_, h8_, h9_, h10_, h11_, h12_, h13_, h14_, h15_, h16_, h17_, h18_, h19_⟩
           have n0_ : Aside0 (Kd.R k64 64 w74 w.heap.size (fun k_ => some k_ ≠ (.slice Ao42 t301.length co42 : Value).ownBlock ∧ some k_ ≠ (.slice Ao48 t305.length co48 : Value).ownBlock ∧ some k_ ≠ (.slice Ao54 t313.length co54 : Value).ownBlock ∧ some k_ ≠ (.slice Ao58 t318.length co58 : Value).ownBlock ∧ some k_ ≠ (v329 : Value).ownBlock ∧ some k_ ≠ (v337 : Value).ownBlock) v294 t293) := ⟨h0_⟩
           have n1_ : Aside0 (Kd.R k64 64 w74 w.heap.size (fun k_ => some k_ ≠ (v294 : Value).ownBlock ∧ some k_ ≠ (.slice Ao48 t305.length co48 : Value).ownBlock ∧ some k_ ≠ (.slice Ao54 t313.length co54 : Value).ownBlock ∧ some k_ ≠ (.slice Ao58 t318.length co58 : Value).ownBlock ∧ some k_ ≠ (v329 : Value).ownBlock ∧ some k_ ≠ (v337 : Value).ownBlock) (.slice Ao42 t301.length co42) t301) := ⟨h1_⟩
           have n2_ : Aside0 (Kd.R k64 64 w74 w.heap.size (fun k_ => some k_ ≠ (v294 : Value).ownBlock ∧ some k_ ≠ (.slice Ao42 t301.length co42 : Value).ownBlock ∧ some k_ ≠ (.slice Ao54 t313.length co54 : Value).ownBlock ∧ some k_ ≠ (.slice Ao58 t318.length co58 : Value).ownBlock ∧ some k_ ≠ (v329 : Value).ownBlock ∧ some k_ ≠ (v337 : Value).ownBlock) (.slice Ao48 t305.length co48) t323) := ⟨h2_⟩
           have n3_ : Aside0 (Kd.R k64 64 w74 w.heap.size (fun k_ => some k_ ≠ (v294 : Value).ownBlock ∧ some k_ ≠ (.slice Ao42 t301.length co42 : Value).ownBlock ∧ some k_ ≠ (.slice Ao48 t305.length co48 : Value).ownBlock ∧ some k_ ≠ (.slice Ao58 t318.length co58 : Value).ownBlock ∧ some k_ ≠ (v329 : Value).ownBlock ∧ some k_ ≠ (v337 : Value).ownBlock) (.slice Ao54 t313.length co54) t326) := ⟨h3_⟩
           have n4_ : Aside0 (Kd.R k64 64 w74 w.heap.size (fun k_ => some k_ ≠ (v294 : Value).ownBlock ∧ some k_ ≠ (.slice Ao42 t301.length co42 : Value).ownBlock ∧ some k_ ≠ (.slice Ao48 t305.length co48 : Value).ownBlock ∧ some k_ ≠ (.slice Ao54 t313.length co54 : Value).ownBlock ∧ some k_ ≠ (v329 : Value).ownBlock ∧ some k_ ≠ (v337 : Value).ownBlock) (.slice Ao58 t318.length co58) t318) := ⟨h4_⟩
           have n5_ : Aside0 (Kd.R k64 64 w74 w.heap.size (fun k_ => some k_ ≠ (v294 : Value).ownBlock ∧ some k_ ≠ (.slice Ao42 t301.length co42 : Value).ownBlock ∧ some k_ ≠ (.slice Ao48 t305.length co48 : Value).ownBlock ∧ some k_ ≠ (.slice Ao54 t313.length co54 : Value).ownBlock ∧ some k_ ≠ (.slice Ao58 t318.length co58 : Value).ownBlock ∧ some k_ ≠ (v337 : Value).ownBlock) v329 t328) := ⟨h5_⟩
           have n6_ : Aside0 (Kd.R k64 64 w74 w.heap.size (fun k_ => some k_ ≠ (v294 : Value).ownBlock ∧ some k_ ≠ (.slice Ao42 t301.length co42 : Value).ownBlock ∧ some k_ ≠ (.slice Ao48 t305.length co48 : Value).ownBlock ∧ some k_ ≠ (.slice Ao54 t313.length co54 : Value).ownBlock ∧ some k_ ≠ (.slice Ao58 t318.length co58 : Value).ownBlock ∧ some k_ ≠ (v329 : Value).ownBlock) v337 t336) := ⟨h6_⟩
           have n7_ : Aside0 (w74.heap[gb291]? = some (.cells #[.int .i64 a1_0, .int .i64 a1_1, .int .i64 a1_2, .int .i64 a1_3] 55 (0, 0))) := ⟨h7_⟩
           have n8_ : Aside0 (w74.heap[gb304]? = some (.cells #[.int .i64 t300, .slice Ao42 t301.length co42] 59 (0, 0))) := ⟨h8_⟩
           have n9_ : Aside0 (w74.heap[gb316]? = some (.cells #[.int .i64 t312, .slice Ao54 t313.length co54] 59 (0, 0))) := ⟨h9_⟩
           have n10_ : Aside0 (w74.heap[gb339]? = some (.cells #[.int .i64 0, .slice none 0 0] 59 (0, 0))) := ⟨h10_⟩
           have n11_ : Aside0 (w.heap.size ≤ gb339) := ⟨h11_⟩
           have n12_ : Aside0 (w.heap.size ≤ gb339) := ⟨h12_⟩
           have n13_ : Aside0 (gb291 ≠ gb339) := ⟨h13_⟩
           have n14_ : Aside0 (gb339 ≠ gb291) := ⟨h14_⟩
           have n15_ : Aside0 (gb304 ≠ gb339) := ⟨h15_⟩
           have n16_ : Aside0 (gb339 ≠ gb304) := ⟨h16_⟩
           have n17_ : Aside0 (gb316 ≠ gb339) := ⟨h17_⟩
           have n18_ : Aside0 (gb339 ≠ gb316) := ⟨h18_⟩
           have n19_ : Aside0 (Below w.heap.size w w74) := ⟨h19_⟩
           clear HO295
           clear HO303
           clear HO307
           clear HO315
           clear HO320
           clear BK291
           clear BK304
           clear BK316
           clear HB
           clear h0_ h1_ h2_ h3_ h4_ h5_ h6_ h7_ h8_ h9_ h10_ h11_ h12_ h13_ h14_ h15_ h16_ h17_ h18_ h19_
           have HO295 := n0_
           have HO303 := n1_
           have HO307 := n2_
           have HO315 := n3_
           have HO320 := n4_
           have HO330 := n5_
           have HO338 := n6_
           have BK291 := n7_
           have BK304 := n8_
           have BK316 := n9_
           have BK339 := n10_
           have GW339 := n11_
           have GE339 := n12_
           have NB291_339 := n13_
           have NB339_291 := n14_
           have NB304_339 := n15_
           have NB339_304 := n16_
           have NB316_339 := n17_
           have NB339_316 := n18_
           have HB := n19_
           clear n0_ n1_ n2_ n3_ n4_ n5_ n6_ n7_ n8_ n9_ n10_ n11_ n12_ n13_ n14_ n15_ n16_ n17_ n18_ n19_
           have hHeld : w74.cell? ⟨gb291, 0, none⟩ = some (.int .i64 a1_0) ∧ w74.cell? ⟨gb291, 1, none⟩ = some (.int .i64 a1_1) ∧ w74.cell? ⟨gb291, 2, none⟩ = some (.int .i64 a1_2) ∧ w74.cell? ⟨gb291, 3, none⟩ = some (.int .i64 a1_3) := hS_
           obtain ⟨Ao76, co76, eo76⟩ := Kd.R_slice HO338.out
           (first | subst eo76 | (injection eo76 with f1_ f2_ f3_; have f4_ := f1_.symm; have f5_ := f3_.symm; clear f1_ f2_ f3_; subst f4_; subst f5_))
           refine norm_ (a' := ?_) ?_ ?_
           rotate_left
           ·simp only [putAll, Act.put, List.setIfInBounds_toArray, List.set_cons_zero, List.set_cons_succ]
            rfl
           refine one_ (i := 6) (N := none) #[true, true, true, true, true, true, true] rfl rfl (by kernel_rfl) (by decide) (fun K hK => ?_)
           have hs75 : w74.cell? ⟨gb339, 0, none⟩ = some (.int .i64 0) := (blk_cell BK339.out 0).trans rfl
           have hfs75 := blk_frozen BK339.out 0
           have hns75_0 := NB291_339.out
           have hns75_1 := NB304_339.out
           have hns75_2 := NB316_339.out
           have hms75_0 := NB339_291.out
           have hms75_1 := NB339_304.out
           have hms75_2 := NB339_316.out
           have hs77 : w74.cell? ⟨gb339, 1, none⟩ = some (.slice none 0 0) := (blk_cell BK339.out 1).trans rfl
           have hfs77 := blk_frozen BK339.out 1
           have hns77_0 := NB291_339.out
           have hns77_1 := NB304_339.out
           have hns77_2 := NB316_339.out
           have hms77_0 := NB339_291.out
           have hms77_1 := NB339_304.out
           have hms77_2 := NB339_316.out
           refine skip_ (w1 := ?_) (by rfl) rfl ?_ ?_
           rotate_left
           ·go_simp
            rfl
           refine hK.out _ _ ⟨((cell_far (p := ⟨gb339, _, none⟩) NB291_339.out _).trans (((cell_far (p := ⟨gb339, _, none⟩) NB291_339.out _).trans (hHeld.1)))), ((cell_far (p := ⟨gb339, _, none⟩) NB291_339.out _).trans (((cell_far (p := ⟨gb339, _, none⟩) NB291_339.out _).trans (hHeld.2.1)))), ((cell_far (p := ⟨gb339, _, none⟩) NB291_339.out _).trans (((cell_far (p := ⟨gb339, _, none⟩) NB291_339.out _).trans (hHeld.2.2.1)))), ((cell_far (p := ⟨gb339, _, none⟩) NB291_339.out _).trans (((cell_far (p := ⟨gb339, _, none⟩) NB291_339.out _).trans (hHeld.2.2.2))))⟩ (fun hHeld => ?_)
           clear hK K
           refine done_ (by kernel_rfl) ?_
           have hnb78 := NB339_291.out
           have hnc78 := NB291_339.out
           have hnb79 := NB339_304.out
           have hnc79 := NB304_339.out
           have hnb80 := NB339_316.out
           have hnc80 := NB316_339.out
           have hcz81_0 : w74.cell? ⟨gb339, 0, none⟩ = some (.int .i64 0) := (blk_cell BK339.out 0).trans rfl
           have hcz81_1 : w74.cell? ⟨gb339, 1, none⟩ = some (.slice none 0 0) := (blk_cell BK339.out 1).trans rfl
           have hfz81_0 := blk_frozen BK339.out 0
           have hfz81_1 := blk_frozen BK339.out 1
           have hcz82_0 : w74.cell? ⟨gb304, 0, none⟩ = some (.int .i64 t300) := (blk_cell BK304.out 0).trans rfl
           have hcz82_1 : w74.cell? ⟨gb304, 1, none⟩ = some (.slice Ao42 t301.length co42) := (blk_cell BK304.out 1).trans rfl
           have hfz82_0 := blk_frozen BK304.out 0
           have hfz82_1 := blk_frozen BK304.out 1
           try go_wp2_with (first | ((with_reducible refine gate_callee (f := 28) rfl ?_); refine goesL_ (some 67) rfl rfl Try.func28 (by kernel_rfl) rfl #[.agg #[.int .i64 t335, .slice Ao76 t336.length co76], .agg #[.int .i64 t300, .slice Ao42 t301.length co42]] rfl (by (try simp only [List.map_toArray, List.map_cons, List.map_nil]); first | done | rfl | (simp only [List.length_drop, List.length_take]; rfl)) ?_; (with_reducible refine (laws_eqBindsResult.calls k t335 _ _ t336 t300 _ _ t301  _ ?side1 ?side2 ?side3 ?side4 A28.out).mono ?_); (case side1 => refine (Kd.R_reads' (e := 64) (base := w.heap.size) (ok := fun k_ => (some k_ ≠ (v294 : Value).ownBlock ∧ (some k_ ≠ (.slice Ao42 t301.length co42 : Value).ownBlock ∧ (some k_ ≠ (.slice Ao48 t305.length co48 : Value).ownBlock ∧ (some k_ ≠ (.slice Ao54 t313.length co54 : Value).ownBlock ∧ (some k_ ≠ (.slice Ao58 t318.length co58 : Value).ownBlock ∧ some k_ ≠ (v329 : Value).ownBlock)))))) (n := t336.length) (c := co76) ?_).2.2; exact (by (with_reducible repeat (first | apply Kd.R_alloc | apply Kd.R_drewN | apply Kd.R_drew)); exact (Kd.R_mono (Kd.R_far (p := ⟨gb339, 1, none⟩) (Kd.R_far (p := ⟨gb339, 0, none⟩) (Kd.R_types HO338.out BK339.out (by decide)) (fun _ hk => hk.2) (.int .i64 t335)) (fun _ hk => hk.2) (.slice Ao76 t336.length co76)) (fun _ h_ => h_.1)))); (case side2 => exact (Kd.R_reads' HO338.out).2.1); (case side3 => refine (Kd.R_reads' (e := 64) (base := w.heap.size) (ok := fun k_ => (some k_ ≠ (v294 : Value).ownBlock ∧ (some k_ ≠ (.slice Ao48 t305.length co48 : Value).ownBlock ∧ (some k_ ≠ (.slice Ao54 t313.length co54 : Value).ownBlock ∧ (some k_ ≠ (.slice Ao58 t318.length co58 : Value).ownBlock ∧ (some k_ ≠ (v329 : Value).ownBlock ∧ some k_ ≠ (.slice Ao76 t336.length co76 : Value).ownBlock)))))) (n := t301.length) (c := co42) ?_).2.2; exact (by (with_reducible repeat (first | apply Kd.R_alloc | apply Kd.R_drewN | apply Kd.R_drew)); exact (Kd.R_mono (Kd.R_far (p := ⟨gb339, 1, none⟩) (Kd.R_far (p := ⟨gb339, 0, none⟩) (Kd.R_types HO303.out BK339.out (by decide)) (fun _ hk => hk.2) (.int .i64 t335)) (fun _ hk => hk.2) (.slice Ao76 t336.length co76)) (fun _ h_ => h_.1)))); (case side4 => exact (Kd.R_reads' HO303.out).2.1); rintro e w83 ⟨rfl, hb⟩; refine ⟨_, rfl, ?_⟩; have n0_ := Aside0.mk (Kd.R_below (by (with_reducible repeat (first | apply Kd.R_alloc | apply Kd.R_drewN | apply Kd.R_drew)); exact (Kd.R_mono (Kd.R_far (p := ⟨gb339, 1, none⟩) (Kd.R_far (p := ⟨gb339, 0, none⟩) (Kd.R_types HO295.out BK339.out (by decide)) (fun _ hk => hk.2) (.int .i64 t335)) (fun _ hk => hk.2) (.slice Ao76 t336.length co76)) (fun _ h_ => h_.1))) hb); have n1_ := Aside0.mk (Kd.R_below (by (with_reducible repeat (first | apply Kd.R_alloc | apply Kd.R_drewN | apply Kd.R_drew)); exact (Kd.R_mono (Kd.R_far (p := ⟨gb339, 1, none⟩) (Kd.R_far (p := ⟨gb339, 0, none⟩) (Kd.R_types HO303.out BK339.out (by decide)) (fun _ hk => hk.2) (.int .i64 t335)) (fun _ hk => hk.2) (.slice Ao76 t336.length co76)) (fun _ h_ => h_.1))) hb); have n2_ := Aside0.mk (Kd.R_below (by (with_reducible repeat (first | apply Kd.R_alloc | apply Kd.R_drewN | apply Kd.R_drew)); exact (Kd.R_mono (Kd.R_far (p := ⟨gb339, 1, none⟩) (Kd.R_far (p := ⟨gb339, 0, none⟩) (Kd.R_types HO307.out BK339.out (by decide)) (fun _ hk => hk.2) (.int .i64 t335)) (fun _ hk => hk.2) (.slice Ao76 t336.length co76)) (fun _ h_ => h_.1))) hb); have n3_ := Aside0.mk (Kd.R_below (by (with_reducible repeat (first | apply Kd.R_alloc | apply Kd.R_drewN | apply Kd.R_drew)); exact (Kd.R_mono (Kd.R_far (p := ⟨gb339, 1, none⟩) (Kd.R_far (p := ⟨gb339, 0, none⟩) (Kd.R_types HO315.out BK339.out (by decide)) (fun _ hk => hk.2) (.int .i64 t335)) (fun _ hk => hk.2) (.slice Ao76 t336.length co76)) (fun _ h_ => h_.1))) hb); have n4_ := Aside0.mk (Kd.R_below (by (with_reducible repeat (first | apply Kd.R_alloc | apply Kd.R_drewN | apply Kd.R_drew)); exact (Kd.R_mono (Kd.R_far (p := ⟨gb339, 1, none⟩) (Kd.R_far (p := ⟨gb339, 0, none⟩) (Kd.R_types HO320.out BK339.out (by decide)) (fun _ hk => hk.2) (.int .i64 t335)) (fun _ hk => hk.2) (.slice Ao76 t336.length co76)) (fun _ h_ => h_.1))) hb); have n5_ := Aside0.mk (Kd.R_below (by (with_reducible repeat (first | apply Kd.R_alloc | apply Kd.R_drewN | apply Kd.R_drew)); exact (Kd.R_mono (Kd.R_far (p := ⟨gb339, 1, none⟩) (Kd.R_far (p := ⟨gb339, 0, none⟩) (Kd.R_types HO330.out BK339.out (by decide)) (fun _ hk => hk.2) (.int .i64 t335)) (fun _ hk => hk.2) (.slice Ao76 t336.length co76)) (fun _ h_ => h_.1))) hb); have n6_ := Aside0.mk (Kd.R_below (by (with_reducible repeat (first | apply Kd.R_alloc | apply Kd.R_drewN | apply Kd.R_drew)); exact (Kd.R_mono (Kd.R_far (p := ⟨gb339, 1, none⟩) (Kd.R_far (p := ⟨gb339, 0, none⟩) (Kd.R_types HO338.out BK339.out (by decide)) (fun _ hk => hk.2) (.int .i64 t335)) (fun _ hk => hk.2) (.slice Ao76 t336.length co76)) (fun _ h_ => h_.1))) hb); have n7_ := Aside0.mk (blk_below (g := gb291) (o := .cells #[.int .i64 a1_0, .int .i64 a1_1, .int .i64 a1_2, .int .i64 a1_3] 55 (0, 0)) (by (with_reducible repeat (first | refine blk_drewN ?_ _ | refine blk_drew ?_ | refine blk_alloc ?_ _)); refine blk_far ?_ NB291_339.out _; (with_reducible repeat (first | refine blk_drewN ?_ _ | refine blk_drew ?_ | refine blk_alloc ?_ _)); refine blk_far ?_ NB291_339.out _; (with_reducible repeat (first | refine blk_drewN ?_ _ | refine blk_drew ?_ | refine blk_alloc ?_ _)); exact BK291.out) hb); have n8_ := Aside0.mk (blk_below (g := gb304) (o := .cells #[.int .i64 t300, .slice Ao42 t301.length co42] 59 (0, 0)) (by (with_reducible repeat (first | refine blk_drewN ?_ _ | refine blk_drew ?_ | refine blk_alloc ?_ _)); refine blk_far ?_ NB304_339.out _; (with_reducible repeat (first | refine blk_drewN ?_ _ | refine blk_drew ?_ | refine blk_alloc ?_ _)); refine blk_far ?_ NB304_339.out _; (with_reducible repeat (first | refine blk_drewN ?_ _ | refine blk_drew ?_ | refine blk_alloc ?_ _)); exact BK304.out) hb); have n9_ := Aside0.mk (blk_below (g := gb316) (o := .cells #[.int .i64 t312, .slice Ao54 t313.length co54] 59 (0, 0)) (by (with_reducible repeat (first | refine blk_drewN ?_ _ | refine blk_drew ?_ | refine blk_alloc ?_ _)); refine blk_far ?_ NB316_339.out _; (with_reducible repeat (first | refine blk_drewN ?_ _ | refine blk_drew ?_ | refine blk_alloc ?_ _)); refine blk_far ?_ NB316_339.out _; (with_reducible repeat (first | refine blk_drewN ?_ _ | refine blk_drew ?_ | refine blk_alloc ?_ _)); exact BK316.out) hb); have n10_ := Aside0.mk (blk_below (g := gb339) (o := .cells #[.int .i64 t335, .slice Ao76 t336.length co76] 59 (0, 0)) (by (with_reducible repeat (first | refine blk_drewN ?_ _ | refine blk_drew ?_ | refine blk_alloc ?_ _)); refine blk_put (cs := #[.int .i64 t335, .slice none 0 0]) ?_ 1 _ rfl; (with_reducible repeat (first | refine blk_drewN ?_ _ | refine blk_drew ?_ | refine blk_alloc ?_ _)); refine blk_put (cs := #[.int .i64 0, .slice none 0 0]) ?_ 0 _ rfl; (with_reducible repeat (first | refine blk_drewN ?_ _ | refine blk_drew ?_ | refine blk_alloc ?_ _)); exact BK339.out) hb); have n11_ := Aside0.mk (below_step (by repeat (first | (with_reducible first | exact HB.out | apply below_alloc | apply pw_below_drewN | apply below_drew1 | refine below_set ?_ GE291.out | refine below_set ?_ GE304.out | refine below_set ?_ GE316.out | refine below_set ?_ GE339.out) | exact HB.out)) hb); clear HO295; clear HO303; clear HO307; clear HO315; clear HO320; clear HO330; clear HO338; clear BK291; clear BK304; clear BK316; clear BK339; clear HB; have HO295 := n0_; have HO303 := n1_; have HO307 := n2_; have HO315 := n3_; have HO320 := n4_; have HO330 := n5_; have HO338 := n6_; have BK291 := n7_; have BK304 := n8_; have BK316 := n9_; have BK339 := n10_; have HB := n11_; clear n0_ n1_ n2_ n3_ n4_ n5_ n6_ n7_ n8_ n9_ n10_ n11_; (try clear hb); (try clear hb2); (try clear hk); (try clear hi); have hcz84_0 : w83.cell? ⟨gb316, 0, none⟩ = some (.int .i64 t312) := (blk_cell BK316.out 0).trans rfl; have hcz84_1 : w83.cell? ⟨gb316, 1, none⟩ = some (.slice Ao54 t313.length co54) := (blk_cell BK316.out 1).trans rfl; have hfz84_0 := blk_frozen BK316.out 0; have hfz84_1 := blk_frozen BK316.out 1) | ((with_reducible refine gate_callee (f := 32) rfl ?_); refine goesL_ (some 71) rfl rfl Try.func32 (by kernel_rfl) rfl #[.agg #[.int .i64 t312, .slice Ao54 t326.length co54], .int .i64 1] rfl (by (try simp only [List.map_toArray, List.map_cons, List.map_nil]); first | done | (rw [show t326.length = t313.length from (Kd.R_reads' HO315.out).1.symm] <;> rfl) | rfl | (simp only [List.length_drop, List.length_take]; rfl)) ?_; (with_reducible refine (laws_heldBindsResult.calls k t312 _ _ t326 1 t341 _ ?side1 ?side2 A30.out).mono ?_); (case side1 => repeat (first | exact (Kd.R_reads' HO315.out).2.2 | (with_reducible refine Kd.C_alloc ?_ _) | (with_reducible refine Kd.C_drewN ?_ _) | (with_reducible refine Kd.C_drew ?_))); (case side2 => rw [show t326.length = t313.length from (Kd.R_reads' HO315.out).1.symm]; exact (Kd.R_reads' HO315.out).2.1); rintro e w85 ⟨rfl, hb⟩; refine ⟨_, rfl, ?_⟩; have n0_ := Aside0.mk (Kd.R_below (by (with_reducible repeat (first | apply Kd.R_alloc | apply Kd.R_drewN | apply Kd.R_drew)); exact HO295.out) hb); have n1_ := Aside0.mk (Kd.R_below (by (with_reducible repeat (first | apply Kd.R_alloc | apply Kd.R_drewN | apply Kd.R_drew)); exact HO303.out) hb); have n2_ := Aside0.mk (Kd.R_below (by (with_reducible repeat (first | apply Kd.R_alloc | apply Kd.R_drewN | apply Kd.R_drew)); exact HO307.out) hb); have n3_ := Aside0.mk (Kd.R_below (by (with_reducible repeat (first | apply Kd.R_alloc | apply Kd.R_drewN | apply Kd.R_drew)); exact HO315.out) hb); have n4_ := Aside0.mk (Kd.R_below (by (with_reducible repeat (first | apply Kd.R_alloc | apply Kd.R_drewN | apply Kd.R_drew)); exact HO320.out) hb); have n5_ := Aside0.mk (Kd.R_below (by (with_reducible repeat (first | apply Kd.R_alloc | apply Kd.R_drewN | apply Kd.R_drew)); exact HO330.out) hb); have n6_ := Aside0.mk (Kd.R_below (by (with_reducible repeat (first | apply Kd.R_alloc | apply Kd.R_drewN | apply Kd.R_drew)); exact HO338.out) hb); have n7_ := Aside0.mk (blkb hb BK291.out); have n8_ := Aside0.mk (blkb hb BK304.out); have n9_ := Aside0.mk (blkb hb BK316.out); have n10_ := Aside0.mk (blkb hb BK339.out); have n11_ := Aside0.mk (below_step (by repeat (first | (with_reducible first | exact HB.out | apply below_alloc | apply pw_below_drewN | apply below_drew1 | refine below_set ?_ GE291.out | refine below_set ?_ GE304.out | refine below_set ?_ GE316.out | refine below_set ?_ GE339.out) | exact HB.out)) hb); clear HO295; clear HO303; clear HO307; clear HO315; clear HO320; clear HO330; clear HO338; clear BK291; clear BK304; clear BK316; clear BK339; clear HB; have HO295 := n0_; have HO303 := n1_; have HO307 := n2_; have HO315 := n3_; have HO320 := n4_; have HO330 := n5_; have HO338 := n6_; have BK291 := n7_; have BK304 := n8_; have BK316 := n9_; have BK339 := n10_; have HB := n11_; clear n0_ n1_ n2_ n3_ n4_ n5_ n6_ n7_ n8_ n9_ n10_ n11_; (try clear hb); (try clear hb2); (try clear hk); (try clear hi)))
           go_ret
           exact ⟨by first | rfl | (simp [errW_none, errW_some] <;> rfl) | (simp [*, errW_none, errW_some] <;> rfl), by repeat (first | (with_reducible first | exact HB.out | apply below_alloc | apply pw_below_drewN | apply below_drew1 | refine below_set ?_ GE291.out | refine below_set ?_ GE304.out | refine below_set ?_ GE316.out | refine below_set ?_ GE339.out) | exact HB.out)⟩
          ·rw [if_neg c32] at H
           have c32b0 : (t341 == t325) = false := beq_eq_false_iff_ne.mpr c32
           have c32b1 : (t341 != t325) = true := bne_iff_ne.mpr c32
           exact absurd H (by simp)
        ·replace c29 := Bool.eq_false_iff.mpr c29
         subst c29
         have H1 : (some false) = some true := by rw [if_neg (show ¬ (false = true) by decide)] at H; (first | done | exact H)
         clear H
         have H := H1
         clear H1
         exact absurd H (by simp)
       ·rw [if_neg c24] at H
        have c24b0 : (t327 == t325) = false := beq_eq_false_iff_ne.mpr c24
        have c24b1 : (t327 != t325) = true := bne_iff_ne.mpr c24
        exact absurd H (by simp)
     ·replace c20 := Bool.eq_false_iff.mpr c20
      subst c20
      have H1 : (some false) = some true := by rw [if_neg (show ¬ (false = true) by decide)] at H; (first | done | exact H)
      clear H
      have H := H1
      clear H1
      exact absurd H (by simp)
   ·replace c16 := Bool.eq_false_iff.mpr c16
    subst c16
    have H1 : (some false) = some true := by rw [if_neg (show ¬ (false = true) by decide)] at H; (first | done | exact H)
    clear H
    have H := H1
    clear H1
    exact absurd H (by simp)
  ·replace c13 := Bool.eq_false_iff.mpr c13
   subst c13
   have H1 : (some false) = some true := by rw [if_neg (show ¬ (false = true) by decide)] at H; (first | done | exact H)
   clear H
   have H := H1
   clear H1
   exact absurd H (by simp)

end Go.Proofs.Ytpoafgokngpglaa.PFnExactPutBind
