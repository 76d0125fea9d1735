-- The row of the law FnExactSameVts: for every input of its parameters' types the call returns true. Written for this claim by a program of this session's (wip/mkrow.py).
import Derived.Test.YtckgkblpbfckdaaRows
import Derived.Test.YtckgkblpbfckdaaPFnExactSameVtsx
import Derived.Test.YtckgkblpbfckdaaPureFnExactSameVts
import Derived.Test.YtckgkblpbfckdaaQgOpen
import Derived.WalkKit
import Derived.ProofKit
import Derived.OpenShut
import Derived.ShutString
import Derived.ChangeOld
import Derived.Below
import Derived.SizedLaws
namespace Go.Proofs.Ytckgkblpbfckdaa.fnExactSameVts
open Go.ChangeShapes Go.WideShapes Go.ChangeAt Go.RowKit Go.Proofs.Ytckgkblpbfckdaa.PFnExactSameVts Go.Proofs.YtckgkblpbfckdaaW.PrintWords Go.Proofs.YtckgkblpbfckdaaOpen
open Go.ChangeMaps (open_string shut_string)
set_option linter.unusedVariables false
theorem own : ownKnob Try.prog.godebug = none := by kernel_rfl
theorem laidOut : laidOutB Try.prog = true := by kernel_rfl
theorem okWide_struct {P : Program} {w : World} {r : Reach} {b t : Nat} {fs : Array Field} {v : Value} (hu : P.underlying t = some (.struct fs)) (h : Value.okWide P w r b t v) : ∃ cs, v = .agg cs := by
  unfold Value.okWide at h
  rw [hu] at h
  obtain ⟨cs, e, _⟩ := h
  exact ⟨cs, e⟩
theorem fits2 : Fits Try.prog 2 (Kd.int .i64) (fun x => (Lit.int .i64 x).wf = true) := fits_int Try.underlying2 (by kernel_rfl)
theorem fits23 : Fits Try.prog 23 k23 (fun x => ((Lit.int .i64 x.f0).wf = true) ∧ ((Lit.int .i64 x.f1).wf = true) ∧ ((Lit.int .i64 x.f2).wf = true)) := by
  have h := fits_struct (d := k23) Try.underlying23 (by kernel_rfl) (fits_iso _ (fun x => (⟨x.1, x.2.1, x.2.2⟩ : S23)) (fun _ => rfl) (fits_cons rfl fits2 (fits_cons rfl fits2 (fits_one rfl fits2))))
  exact h.mono (fun _ h => h)
theorem fits4 : Fits Try.prog 4 Kd.bool (fun x => True) := fits_bool Try.underlying4 (by kernel_rfl)
theorem fits24 : Fits Try.prog 24 (Kd.slice 2 (Kd.int .i64)) (fun x => x.length ≤ maxLen ∧ x.length * 8 ≤ 140737488351232 ∧ ∀ y ∈ x, (Lit.int .i64 y).wf = true) := fits_slice Try.underlying24 (by kernel_rfl) (by kernel_rfl) fits2
theorem fits26 : Fits Try.prog 26 k26 (fun x => ((Lit.int .i64 x.f0).wf = true) ∧ ((Lit.int .i64 x.f1).wf = true) ∧ (True) ∧ (x.f3.length ≤ maxLen ∧ x.f3.length * 8 ≤ 140737488351232 ∧ ∀ y ∈ x.f3, (Lit.int .i64 y).wf = true)) := by
  have h := fits_struct (d := k26) Try.underlying26 (by kernel_rfl) (fits_iso _ (fun x => (⟨x.1, x.2.1, x.2.2.1, x.2.2.2⟩ : S26)) (fun _ => rfl) (fits_cons rfl fits2 (fits_cons rfl fits2 (fits_cons rfl fits4 (fits_one rfl fits24)))))
  exact h.mono (fun _ h => h)
theorem fits77 : Fits Try.prog 77 k77 (fun x => ((Lit.int .i64 x.f0).wf = true) ∧ ((Lit.int .i64 x.f1).wf = true)) := by
  have h := fits_struct (d := k77) Try.underlying77 (by kernel_rfl) (fits_iso _ (fun x => (⟨x.1, x.2⟩ : S77)) (fun _ => rfl) (fits_cons rfl fits2 (fits_one rfl fits2)))
  exact h.mono (fun _ h => h)
theorem fits27 : Fits Try.prog 27 (Kd.slice 77 k77) (fun x => x.length ≤ maxLen ∧ x.length * 16 ≤ 140737488351232 ∧ ∀ y ∈ x, ((Lit.int .i64 y.f0).wf = true) ∧ ((Lit.int .i64 y.f1).wf = true)) := fits_slice Try.underlying27 (by kernel_rfl) (by kernel_rfl) fits77
theorem fits29 : Fits Try.prog 29 k29 (fun x => ((Lit.int .i64 x.f0).wf = true) ∧ ((Lit.int .i64 x.f1).wf = true) ∧ (x.f2.length ≤ maxLen ∧ x.f2.length * 16 ≤ 140737488351232 ∧ ∀ y ∈ x.f2, ((Lit.int .i64 y.f0).wf = true) ∧ ((Lit.int .i64 y.f1).wf = true)) ∧ (x.f3.length ≤ maxLen ∧ x.f3.length * 16 ≤ 140737488351232 ∧ ∀ y ∈ x.f3, ((Lit.int .i64 y.f0).wf = true) ∧ ((Lit.int .i64 y.f1).wf = true))) := by
  have h := fits_struct (d := k29) Try.underlying29 (by kernel_rfl) (fits_iso _ (fun x => (⟨x.1, x.2.1, x.2.2.1, x.2.2.2⟩ : S29)) (fun _ => rfl) (fits_cons rfl fits2 (fits_cons rfl fits2 (fits_cons rfl fits27 (fits_one rfl fits27)))))
  exact h.mono (fun _ h => h)
theorem fits30 : Fits Try.prog 30 (Kd.slice 4 Kd.bool) (fun x => x.length ≤ maxLen ∧ x.length * 1 ≤ 140737488351232 ∧ ∀ y ∈ x, True) := fits_slice Try.underlying30 (by kernel_rfl) (by kernel_rfl) fits4
theorem fits32 : Fits Try.prog 32 k32 (fun x => (((Lit.int .i64 x.f0.f0).wf = true) ∧ ((Lit.int .i64 x.f0.f1).wf = true) ∧ (x.f0.f2.length ≤ maxLen ∧ x.f0.f2.length * 16 ≤ 140737488351232 ∧ ∀ y ∈ x.f0.f2, ((Lit.int .i64 y.f0).wf = true) ∧ ((Lit.int .i64 y.f1).wf = true)) ∧ (x.f0.f3.length ≤ maxLen ∧ x.f0.f3.length * 16 ≤ 140737488351232 ∧ ∀ y ∈ x.f0.f3, ((Lit.int .i64 y.f0).wf = true) ∧ ((Lit.int .i64 y.f1).wf = true))) ∧ ((Lit.int .i64 x.f1).wf = true) ∧ ((Lit.int .i64 x.f2).wf = true) ∧ (True) ∧ ((Lit.int .i64 x.f4).wf = true) ∧ ((Lit.int .i64 x.f5).wf = true) ∧ ((Lit.int .i64 x.f6).wf = true) ∧ (True) ∧ (True) ∧ (True) ∧ (x.f10.length ≤ maxLen ∧ x.f10.length * 1 ≤ 140737488351232 ∧ ∀ y ∈ x.f10, True) ∧ ((Lit.int .i64 x.f11).wf = true) ∧ ((Lit.int .i64 x.f12).wf = true) ∧ ((Lit.int .i64 x.f13).wf = true) ∧ (x.f14.length ≤ maxLen ∧ x.f14.length * 8 ≤ 140737488351232 ∧ ∀ y ∈ x.f14, (Lit.int .i64 y).wf = true) ∧ ((Lit.int .i64 x.f15).wf = true) ∧ ((Lit.int .i64 x.f16).wf = true)) := by
  have h := fits_struct (d := k32) Try.underlying32 (by kernel_rfl) (fits_iso _ (fun x => (⟨x.1, x.2.1, x.2.2.1, x.2.2.2.1, x.2.2.2.2.1, x.2.2.2.2.2.1, x.2.2.2.2.2.2.1, x.2.2.2.2.2.2.2.1, x.2.2.2.2.2.2.2.2.1, x.2.2.2.2.2.2.2.2.2.1, x.2.2.2.2.2.2.2.2.2.2.1, x.2.2.2.2.2.2.2.2.2.2.2.1, x.2.2.2.2.2.2.2.2.2.2.2.2.1, x.2.2.2.2.2.2.2.2.2.2.2.2.2.1, x.2.2.2.2.2.2.2.2.2.2.2.2.2.2.1, x.2.2.2.2.2.2.2.2.2.2.2.2.2.2.2.1, x.2.2.2.2.2.2.2.2.2.2.2.2.2.2.2.2⟩ : S32)) (fun _ => rfl) (fits_cons rfl fits29 (fits_cons rfl fits2 (fits_cons rfl fits2 (fits_cons rfl fits4 (fits_cons rfl fits2 (fits_cons rfl fits2 (fits_cons rfl fits2 (fits_cons rfl fits4 (fits_cons rfl fits4 (fits_cons rfl fits4 (fits_cons rfl fits30 (fits_cons rfl fits2 (fits_cons rfl fits2 (fits_cons rfl fits2 (fits_cons rfl fits24 (fits_cons rfl fits2 (fits_one rfl fits2))))))))))))))))))
  exact h.mono (fun _ h => h)
theorem fits34 : Fits Try.prog 34 k34 (fun x => (((Lit.int .i64 x.f0.f0).wf = true) ∧ ((Lit.int .i64 x.f0.f1).wf = true) ∧ ((Lit.int .i64 x.f0.f2).wf = true)) ∧ (((Lit.int .i64 x.f1.f0).wf = true) ∧ ((Lit.int .i64 x.f1.f1).wf = true) ∧ (True) ∧ (x.f1.f3.length ≤ maxLen ∧ x.f1.f3.length * 8 ≤ 140737488351232 ∧ ∀ y ∈ x.f1.f3, (Lit.int .i64 y).wf = true)) ∧ ((((Lit.int .i64 x.f2.f0.f0).wf = true) ∧ ((Lit.int .i64 x.f2.f0.f1).wf = true) ∧ (x.f2.f0.f2.length ≤ maxLen ∧ x.f2.f0.f2.length * 16 ≤ 140737488351232 ∧ ∀ y ∈ x.f2.f0.f2, ((Lit.int .i64 y.f0).wf = true) ∧ ((Lit.int .i64 y.f1).wf = true)) ∧ (x.f2.f0.f3.length ≤ maxLen ∧ x.f2.f0.f3.length * 16 ≤ 140737488351232 ∧ ∀ y ∈ x.f2.f0.f3, ((Lit.int .i64 y.f0).wf = true) ∧ ((Lit.int .i64 y.f1).wf = true))) ∧ ((Lit.int .i64 x.f2.f1).wf = true) ∧ ((Lit.int .i64 x.f2.f2).wf = true) ∧ (True) ∧ ((Lit.int .i64 x.f2.f4).wf = true) ∧ ((Lit.int .i64 x.f2.f5).wf = true) ∧ ((Lit.int .i64 x.f2.f6).wf = true) ∧ (True) ∧ (True) ∧ (True) ∧ (x.f2.f10.length ≤ maxLen ∧ x.f2.f10.length * 1 ≤ 140737488351232 ∧ ∀ y ∈ x.f2.f10, True) ∧ ((Lit.int .i64 x.f2.f11).wf = true) ∧ ((Lit.int .i64 x.f2.f12).wf = true) ∧ ((Lit.int .i64 x.f2.f13).wf = true) ∧ (x.f2.f14.length ≤ maxLen ∧ x.f2.f14.length * 8 ≤ 140737488351232 ∧ ∀ y ∈ x.f2.f14, (Lit.int .i64 y).wf = true) ∧ ((Lit.int .i64 x.f2.f15).wf = true) ∧ ((Lit.int .i64 x.f2.f16).wf = true))) := by
  have h := fits_struct (d := k34) Try.underlying34 (by kernel_rfl) (fits_iso _ (fun x => (⟨x.1, x.2.1, x.2.2⟩ : S34)) (fun _ => rfl) (fits_cons rfl fits23 (fits_cons rfl fits26 (fits_one rfl fits32))))
  exact h.mono (fun _ h => h)
set_option maxRecDepth 100000 in
theorem lifted (os : Os) (started : os.Started) (H : Type) (enc : TypeId × Value → H) :
    ReturnsInHanded {} Try.checked os 3 .any (Rows.fnExactSameVtsSpec.pre6 enc Try.prog Try.f3 Rows.fnExactSameVtsRow.domain false) (Rows.fnExactSameVtsSpec.post enc Try.prog Try.f3 false true false false) := by
  refine returnsInHanded_of_change_sized (C := Try.checked) own started (by kernel_rfl) Try.func3
    (ChangeSpec.witness6 (enc := enc) (C := Try.checked) false ⟨#[], #[.agg #[(.int .i64 0), (.int .i64 0), (.int .i64 0), (.int .i64 0), (.int .i64 0), (.bool false), (.slice none 0 0), (.int .i64 0), (.int .i64 0), (.slice none 0 0), (.slice none 0 0), (.int .i64 0), (.int .i64 0), (.bool false), (.int .i64 0), (.int .i64 0), (.int .i64 0), (.bool false), (.bool false), (.bool false), (.slice none 0 0), (.int .i64 0), (.int .i64 0), (.int .i64 0), (.slice none 0 0), (.int .i64 0), (.int .i64 0)], .agg #[(.int .i64 0), (.int .i64 0), (.int .i64 0), (.int .i64 0), (.int .i64 0), (.bool false), (.slice none 0 0), (.int .i64 0), (.int .i64 0), (.slice none 0 0), (.slice none 0 0), (.int .i64 0), (.int .i64 0), (.bool false), (.int .i64 0), (.int .i64 0), (.int .i64 0), (.bool false), (.bool false), (.bool false), (.slice none 0 0), (.int .i64 0), (.int .i64 0), (.int .i64 0), (.slice none 0 0), (.int .i64 0), (.int .i64 0)]], []⟩ 8 (by kernel_rfl) (by kernel_rfl) (by kernel_rfl) (by kernel_rfl)) ?_
  intro W base args ds gs before hval0 hW hcnd hsz0 _
  have hsz : (DataW.weightsEach Try.prog (Try.f3.params.toList ++ Rows.fnExactSameVtsSpec.plain.varTypes Try.prog) (ds ++ gs)).all (· ≤ reachBytes) = true := hsz0
  have hval : ∀ (j : Nat) t v, Try.f3.params[j]? = some t → args[j]? = some v → Value.okWide Try.prog W .any base t v := hval0
  have hW' := hW
  obtain ⟨p, q, hA0, hV, rfl, hfz, hnd⟩ := hW
  have hA : DataW.TrodAll enc Try.prog W 0 (fun _ => true) true Try.f3.params.toList args.toList ds p := hA0
  rw [Try.params3] at hA hval hsz
  obtain ⟨v0, vs0, d0, ds0, p0, q0, hargs, rfl, rfl, h0, r0⟩ := trodAll_cons hA
  obtain ⟨v1, vs1, d1, ds1, p1, q1, rfl, rfl, rfl, h1, r1⟩ := trodAll_cons r0
  obtain ⟨rfl, rfl, rfl⟩ := trodAll_nil r1
  obtain rfl : args = #[v0, v1] := by cases args; simp_all
  obtain ⟨rfl, rfl⟩ := trodVars_none hV
  have k0 := h0
  have lt0 : ∀ x ∈ p0, x.block < W.heap.size := by obtain ⟨m, hm⟩ := k0; exact DataW.trod_lt m _ _ _ hm
  obtain ⟨x0, hx0, ok0⟩ := fits34.arg h0 (weights_arg hsz (j := 0) (t := 34) rfl rfl)
  obtain ⟨cs0, rfl⟩ := okWide_struct Try.underlying34 (hval 0 34 v0 rfl rfl)
  have hx0' : k34.K W x0 cs0.toList := by simpa [Value.cells] using hx0
  obtain ⟨A0_6, c0_6, A0_9, c0_9, A0_10, c0_10, A0_20, c0_20, A0_24, c0_24, hc0, l0_6, g0_6, l0_9, g0_9, l0_10, g0_10, l0_20, g0_20, l0_24, g0_24⟩ := k34_open hx0'
  obtain rfl : cs0 = #[.int .i64 x0.f0.f0, .int .i64 x0.f0.f1, .int .i64 x0.f0.f2, .int .i64 x0.f1.f0, .int .i64 x0.f1.f1, .bool x0.f1.f2, .slice A0_6 x0.f1.f3.length c0_6, .int .i64 x0.f2.f0.f0, .int .i64 x0.f2.f0.f1, .slice A0_9 x0.f2.f0.f2.length c0_9, .slice A0_10 x0.f2.f0.f3.length c0_10, .int .i64 x0.f2.f1, .int .i64 x0.f2.f2, .bool x0.f2.f3, .int .i64 x0.f2.f4, .int .i64 x0.f2.f5, .int .i64 x0.f2.f6, .bool x0.f2.f7, .bool x0.f2.f8, .bool x0.f2.f9, .slice A0_20 x0.f2.f10.length c0_20, .int .i64 x0.f2.f11, .int .i64 x0.f2.f12, .int .i64 x0.f2.f13, .slice A0_24 x0.f2.f14.length c0_24, .int .i64 x0.f2.f15, .int .i64 x0.f2.f16] := by rw [← Array.toArray_toList (xs := cs0), hc0]
  have k1 := h1
  have lt1 : ∀ x ∈ p1, x.block < W.heap.size := by obtain ⟨m, hm⟩ := k1; exact DataW.trod_lt m _ _ _ hm
  obtain ⟨x1, hx1, ok1⟩ := fits34.arg h1 (weights_arg hsz (j := 1) (t := 34) rfl rfl)
  obtain ⟨cs1, rfl⟩ := okWide_struct Try.underlying34 (hval 1 34 v1 rfl rfl)
  have hx1' : k34.K W x1 cs1.toList := by simpa [Value.cells] using hx1
  obtain ⟨A1_6, c1_6, A1_9, c1_9, A1_10, c1_10, A1_20, c1_20, A1_24, c1_24, hc1, l1_6, g1_6, l1_9, g1_9, l1_10, g1_10, l1_20, g1_20, l1_24, g1_24⟩ := k34_open hx1'
  obtain rfl : cs1 = #[.int .i64 x1.f0.f0, .int .i64 x1.f0.f1, .int .i64 x1.f0.f2, .int .i64 x1.f1.f0, .int .i64 x1.f1.f1, .bool x1.f1.f2, .slice A1_6 x1.f1.f3.length c1_6, .int .i64 x1.f2.f0.f0, .int .i64 x1.f2.f0.f1, .slice A1_9 x1.f2.f0.f2.length c1_9, .slice A1_10 x1.f2.f0.f3.length c1_10, .int .i64 x1.f2.f1, .int .i64 x1.f2.f2, .bool x1.f2.f3, .int .i64 x1.f2.f4, .int .i64 x1.f2.f5, .int .i64 x1.f2.f6, .bool x1.f2.f7, .bool x1.f2.f8, .bool x1.f2.f9, .slice A1_20 x1.f2.f10.length c1_20, .int .i64 x1.f2.f11, .int .i64 x1.f2.f12, .int .i64 x1.f2.f13, .slice A1_24 x1.f2.f14.length c1_24, .int .i64 x1.f2.f15, .int .i64 x1.f2.f16] := by rw [← Array.toArray_toList (xs := cs1), hc1]
  clear hA0 hval0 hsz0 hsz
  obtain ⟨k, hp⟩ := Pure.FnExactSameVts x0 x1 ok0 ok1
  refine (laws_FnExactSameVts.calls k x0.f0.f0 x0.f0.f1 x0.f0.f2 x0.f1.f0 x0.f1.f1 x0.f1.f2 A0_6 c0_6 x0.f1.f3 x0.f2.f0.f0 x0.f2.f0.f1 A0_9 c0_9 x0.f2.f0.f2 A0_10 c0_10 x0.f2.f0.f3 x0.f2.f1 x0.f2.f2 x0.f2.f3 x0.f2.f4 x0.f2.f5 x0.f2.f6 x0.f2.f7 x0.f2.f8 x0.f2.f9 A0_20 c0_20 x0.f2.f10 x0.f2.f11 x0.f2.f12 x0.f2.f13 A0_24 c0_24 x0.f2.f14 x0.f2.f15 x0.f2.f16 x1.f0.f0 x1.f0.f1 x1.f0.f2 x1.f1.f0 x1.f1.f1 x1.f1.f2 A1_6 c1_6 x1.f1.f3 x1.f2.f0.f0 x1.f2.f0.f1 A1_9 c1_9 x1.f2.f0.f2 A1_10 c1_10 x1.f2.f0.f3 x1.f2.f1 x1.f2.f2 x1.f2.f3 x1.f2.f4 x1.f2.f5 x1.f2.f6 x1.f2.f7 x1.f2.f8 x1.f2.f9 A1_20 c1_20 x1.f2.f10 x1.f2.f11 x1.f2.f12 x1.f2.f13 A1_24 c1_24 x1.f2.f14 x1.f2.f15 x1.f2.f16 W g0_6 l0_6 g0_9 l0_9 g0_10 l0_10 g0_20 l0_20 g0_24 l0_24 g1_6 l1_6 g1_9 l1_9 g1_10 l1_10 g1_20 l1_20 g1_24 l1_24 hp).mono fun e W' ⟨he, bel⟩ => ?_
  subst he
  exact ⟨_, rfl, _, _, _, [], _, [], hW', trodAll_mk1 (shut_bool Try.underlying4 _), (trodAll_cons_mk (Below.trod laidOut (by kernel_rfl) (of_decide_eq_true (by kernel_rfl)) k0 bel lt0) (trodAll_cons_mk (Below.trod laidOut (by kernel_rfl) (of_decide_eq_true (by kernel_rfl)) k1 bel lt1) trodAll_mk0)), rfl, bel.frame _, fun h => by cases h⟩
theorem over : Rows.fnExactSameVtsRow.holds Try.pinned (OpenSpec.ofChange Rows.fnExactSameVtsSpec) :=
  OpenClaim.holds_of_wide 3 Try.f3 rfl rfl rfl rfl rfl rfl rfl ⟨rfl, rfl, rfl, rfl, rfl⟩ rfl rfl rfl rfl rfl (by kernel_rfl) Try.func3 (by kernel_rfl)
    (of_decide_eq_true (by kernel_rfl)) (by unfold Func.isWrapper; first | (rw [if_pos (by decide +kernel)]; kernel_rfl) | (rw [if_neg (by decide +kernel)]; exact ⟨rfl, rfl⟩))
    (fun os started H enc _ => lifted os started H enc)
theorem proved : Rows.FnExactSameVtsSaid := over
#print axioms proved
end Go.Proofs.Ytckgkblpbfckdaa.fnExactSameVts
namespace Go.Proofs.Ytckgkblpbfckdaa
/-- The row, under a short name, for the claim. -/
theorem fnExactSameVts_holds : Rows.FnExactSameVtsSaid := fnExactSameVts.proved
end Go.Proofs.Ytckgkblpbfckdaa
