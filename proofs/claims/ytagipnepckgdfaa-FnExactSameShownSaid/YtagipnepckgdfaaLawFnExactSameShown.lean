-- The row of the law FnExactSameShown: for every input of its parameters' types the call returns true. Written for this claim by a program of this session's (wip/mkrow.py).
import Derived.Test.YtagipnepckgdfaaRows
import Derived.Test.YtagipnepckgdfaaPFnExactSameShownx
import Derived.Test.YtagipnepckgdfaaPureFnExactSameShown
import Derived.Test.YtagipnepckgdfaaQeOpen
import Derived.WalkKit
import Derived.ProofKit
import Derived.OpenShut
import Derived.ShutString
import Derived.ChangeOld
import Derived.Below
import Derived.SizedLaws
namespace Go.Proofs.Ytagipnepckgdfaa.fnExactSameShown
open Go.ChangeShapes Go.WideShapes Go.ChangeAt Go.RowKit Go.Proofs.Ytagipnepckgdfaa.PFnExactSameShown Go.Proofs.YtagipnepckgdfaaW.PrintWords Go.Proofs.YtagipnepckgdfaaOpen
open Go.ChangeMaps (open_string shut_string)
set_option linter.unusedVariables false
theorem own : ownKnob Try.prog.godebug = none := by kernel_rfl
theorem laidOut : laidOutB Try.prog = true := by kernel_rfl
theorem okWide_struct {P : Program} {w : World} {r : Reach} {b t : Nat} {fs : Array Field} {v : Value} (hu : P.underlying t = some (.struct fs)) (h : Value.okWide P w r b t v) : ∃ cs, v = .agg cs := by
  unfold Value.okWide at h
  rw [hu] at h
  obtain ⟨cs, e, _⟩ := h
  exact ⟨cs, e⟩
theorem fits2 : Fits Try.prog 2 (Kd.int .i64) (fun x => (Lit.int .i64 x).wf = true) := fits_int Try.underlying2 (by kernel_rfl)
theorem fits130 : Fits Try.prog 130 k130 (fun x => ((Lit.int .i64 x.f0).wf = true) ∧ ((Lit.int .i64 x.f1).wf = true)) := by
  have h := fits_struct (d := k130) Try.underlying130 (by kernel_rfl) (fits_iso _ (fun x => (⟨x.1, x.2⟩ : S130)) (fun _ => rfl) (fits_cons rfl fits2 (fits_one rfl fits2)))
  exact h.mono (fun _ h => h)
theorem fits40 : Fits Try.prog 40 (Kd.slice 130 k130) (fun x => x.length ≤ maxLen ∧ x.length * 16 ≤ 140737488351232 ∧ ∀ y ∈ x, ((Lit.int .i64 y.f0).wf = true) ∧ ((Lit.int .i64 y.f1).wf = true)) := fits_slice Try.underlying40 (by kernel_rfl) (by kernel_rfl) fits130
theorem fits42 : Fits Try.prog 42 k42 (fun x => ((Lit.int .i64 x.f0).wf = true) ∧ ((Lit.int .i64 x.f1).wf = true) ∧ (x.f2.length ≤ maxLen ∧ x.f2.length * 16 ≤ 140737488351232 ∧ ∀ y ∈ x.f2, ((Lit.int .i64 y.f0).wf = true) ∧ ((Lit.int .i64 y.f1).wf = true)) ∧ (x.f3.length ≤ maxLen ∧ x.f3.length * 16 ≤ 140737488351232 ∧ ∀ y ∈ x.f3, ((Lit.int .i64 y.f0).wf = true) ∧ ((Lit.int .i64 y.f1).wf = true))) := by
  have h := fits_struct (d := k42) Try.underlying42 (by kernel_rfl) (fits_iso _ (fun x => (⟨x.1, x.2.1, x.2.2.1, x.2.2.2⟩ : S42)) (fun _ => rfl) (fits_cons rfl fits2 (fits_cons rfl fits2 (fits_cons rfl fits40 (fits_one rfl fits40)))))
  exact h.mono (fun _ h => h)
theorem fits4 : Fits Try.prog 4 Kd.bool (fun x => True) := fits_bool Try.underlying4 (by kernel_rfl)
theorem fits58 : Fits Try.prog 58 (Kd.slice 4 Kd.bool) (fun x => x.length ≤ maxLen ∧ x.length * 1 ≤ 140737488351232 ∧ ∀ y ∈ x, True) := fits_slice Try.underlying58 (by kernel_rfl) (by kernel_rfl) fits4
theorem fits22 : Fits Try.prog 22 (Kd.slice 2 (Kd.int .i64)) (fun x => x.length ≤ maxLen ∧ x.length * 8 ≤ 140737488351232 ∧ ∀ y ∈ x, (Lit.int .i64 y).wf = true) := fits_slice Try.underlying22 (by kernel_rfl) (by kernel_rfl) fits2
theorem fits60 : Fits Try.prog 60 k60 (fun x => (((Lit.int .i64 x.f0.f0).wf = true) ∧ ((Lit.int .i64 x.f0.f1).wf = true) ∧ (x.f0.f2.length ≤ maxLen ∧ x.f0.f2.length * 16 ≤ 140737488351232 ∧ ∀ y ∈ x.f0.f2, ((Lit.int .i64 y.f0).wf = true) ∧ ((Lit.int .i64 y.f1).wf = true)) ∧ (x.f0.f3.length ≤ maxLen ∧ x.f0.f3.length * 16 ≤ 140737488351232 ∧ ∀ y ∈ x.f0.f3, ((Lit.int .i64 y.f0).wf = true) ∧ ((Lit.int .i64 y.f1).wf = true))) ∧ ((Lit.int .i64 x.f1).wf = true) ∧ ((Lit.int .i64 x.f2).wf = true) ∧ (True) ∧ ((Lit.int .i64 x.f4).wf = true) ∧ ((Lit.int .i64 x.f5).wf = true) ∧ ((Lit.int .i64 x.f6).wf = true) ∧ (True) ∧ (True) ∧ (True) ∧ (x.f10.length ≤ maxLen ∧ x.f10.length * 1 ≤ 140737488351232 ∧ ∀ y ∈ x.f10, True) ∧ ((Lit.int .i64 x.f11).wf = true) ∧ ((Lit.int .i64 x.f12).wf = true) ∧ ((Lit.int .i64 x.f13).wf = true) ∧ (x.f14.length ≤ maxLen ∧ x.f14.length * 8 ≤ 140737488351232 ∧ ∀ y ∈ x.f14, (Lit.int .i64 y).wf = true) ∧ ((Lit.int .i64 x.f15).wf = true) ∧ ((Lit.int .i64 x.f16).wf = true)) := by
  have h := fits_struct (d := k60) Try.underlying60 (by kernel_rfl) (fits_iso _ (fun x => (⟨x.1, x.2.1, x.2.2.1, x.2.2.2.1, x.2.2.2.2.1, x.2.2.2.2.2.1, x.2.2.2.2.2.2.1, x.2.2.2.2.2.2.2.1, x.2.2.2.2.2.2.2.2.1, x.2.2.2.2.2.2.2.2.2.1, x.2.2.2.2.2.2.2.2.2.2.1, x.2.2.2.2.2.2.2.2.2.2.2.1, x.2.2.2.2.2.2.2.2.2.2.2.2.1, x.2.2.2.2.2.2.2.2.2.2.2.2.2.1, x.2.2.2.2.2.2.2.2.2.2.2.2.2.2.1, x.2.2.2.2.2.2.2.2.2.2.2.2.2.2.2.1, x.2.2.2.2.2.2.2.2.2.2.2.2.2.2.2.2⟩ : S60)) (fun _ => rfl) (fits_cons rfl fits42 (fits_cons rfl fits2 (fits_cons rfl fits2 (fits_cons rfl fits4 (fits_cons rfl fits2 (fits_cons rfl fits2 (fits_cons rfl fits2 (fits_cons rfl fits4 (fits_cons rfl fits4 (fits_cons rfl fits4 (fits_cons rfl fits58 (fits_cons rfl fits2 (fits_cons rfl fits2 (fits_cons rfl fits2 (fits_cons rfl fits22 (fits_cons rfl fits2 (fits_one rfl fits2))))))))))))))))))
  exact h.mono (fun _ h => h)
set_option maxRecDepth 100000 in
theorem lifted (os : Os) (started : os.Started) (H : Type) (enc : TypeId × Value → H) :
    ReturnsInHanded {} Try.checked os 9 .any (Rows.fnExactSameShownSpec.pre6 enc Try.prog Try.f9 Rows.fnExactSameShownRow.domain false) (Rows.fnExactSameShownSpec.post enc Try.prog Try.f9 false true false false) := by
  refine returnsInHanded_of_change_sized (C := Try.checked) own started (by kernel_rfl) Try.func9
    (ChangeSpec.witness6 (enc := enc) (C := Try.checked) false ⟨#[], #[.agg #[(.int .i64 0), (.int .i64 0), (.slice none 0 0), (.slice none 0 0), (.int .i64 0), (.int .i64 0), (.bool false), (.int .i64 0), (.int .i64 0), (.int .i64 0), (.bool false), (.bool false), (.bool false), (.slice none 0 0), (.int .i64 0), (.int .i64 0), (.int .i64 0), (.slice none 0 0), (.int .i64 0), (.int .i64 0)], .agg #[(.int .i64 0), (.int .i64 0), (.slice none 0 0), (.slice none 0 0), (.int .i64 0), (.int .i64 0), (.bool false), (.int .i64 0), (.int .i64 0), (.int .i64 0), (.bool false), (.bool false), (.bool false), (.slice none 0 0), (.int .i64 0), (.int .i64 0), (.int .i64 0), (.slice none 0 0), (.int .i64 0), (.int .i64 0)]], []⟩ 8 (by kernel_rfl) (by kernel_rfl) (by kernel_rfl) (by kernel_rfl)) ?_
  intro W base args ds gs before hval0 hW hcnd hsz0 _
  have hsz : (DataW.weightsEach Try.prog (Try.f9.params.toList ++ Rows.fnExactSameShownSpec.plain.varTypes Try.prog) (ds ++ gs)).all (· ≤ reachBytes) = true := hsz0
  have hval : ∀ (j : Nat) t v, Try.f9.params[j]? = some t → args[j]? = some v → Value.okWide Try.prog W .any base t v := hval0
  have hW' := hW
  obtain ⟨p, q, hA0, hV, rfl, hfz, hnd⟩ := hW
  have hA : DataW.TrodAll enc Try.prog W 0 (fun _ => true) true Try.f9.params.toList args.toList ds p := hA0
  rw [Try.params9] at hA hval hsz
  obtain ⟨v0, vs0, d0, ds0, p0, q0, hargs, rfl, rfl, h0, r0⟩ := trodAll_cons hA
  obtain ⟨v1, vs1, d1, ds1, p1, q1, rfl, rfl, rfl, h1, r1⟩ := trodAll_cons r0
  obtain ⟨rfl, rfl, rfl⟩ := trodAll_nil r1
  obtain rfl : args = #[v0, v1] := by cases args; simp_all
  obtain ⟨rfl, rfl⟩ := trodVars_none hV
  have k0 := h0
  have lt0 : ∀ x ∈ p0, x.block < W.heap.size := by obtain ⟨m, hm⟩ := k0; exact DataW.trod_lt m _ _ _ hm
  obtain ⟨x0, hx0, ok0⟩ := fits60.arg h0 (weights_arg hsz (j := 0) (t := 60) rfl rfl)
  obtain ⟨cs0, rfl⟩ := okWide_struct Try.underlying60 (hval 0 60 v0 rfl rfl)
  have hx0' : k60.K W x0 cs0.toList := by simpa [Value.cells] using hx0
  obtain ⟨A0_2, c0_2, A0_3, c0_3, A0_13, c0_13, A0_17, c0_17, hc0, l0_2, g0_2, l0_3, g0_3, l0_13, g0_13, l0_17, g0_17⟩ := k60_open hx0'
  obtain rfl : cs0 = #[.int .i64 x0.f0.f0, .int .i64 x0.f0.f1, .slice A0_2 x0.f0.f2.length c0_2, .slice A0_3 x0.f0.f3.length c0_3, .int .i64 x0.f1, .int .i64 x0.f2, .bool x0.f3, .int .i64 x0.f4, .int .i64 x0.f5, .int .i64 x0.f6, .bool x0.f7, .bool x0.f8, .bool x0.f9, .slice A0_13 x0.f10.length c0_13, .int .i64 x0.f11, .int .i64 x0.f12, .int .i64 x0.f13, .slice A0_17 x0.f14.length c0_17, .int .i64 x0.f15, .int .i64 x0.f16] := by rw [← Array.toArray_toList (xs := cs0), hc0]
  have k1 := h1
  have lt1 : ∀ x ∈ p1, x.block < W.heap.size := by obtain ⟨m, hm⟩ := k1; exact DataW.trod_lt m _ _ _ hm
  obtain ⟨x1, hx1, ok1⟩ := fits60.arg h1 (weights_arg hsz (j := 1) (t := 60) rfl rfl)
  obtain ⟨cs1, rfl⟩ := okWide_struct Try.underlying60 (hval 1 60 v1 rfl rfl)
  have hx1' : k60.K W x1 cs1.toList := by simpa [Value.cells] using hx1
  obtain ⟨A1_2, c1_2, A1_3, c1_3, A1_13, c1_13, A1_17, c1_17, hc1, l1_2, g1_2, l1_3, g1_3, l1_13, g1_13, l1_17, g1_17⟩ := k60_open hx1'
  obtain rfl : cs1 = #[.int .i64 x1.f0.f0, .int .i64 x1.f0.f1, .slice A1_2 x1.f0.f2.length c1_2, .slice A1_3 x1.f0.f3.length c1_3, .int .i64 x1.f1, .int .i64 x1.f2, .bool x1.f3, .int .i64 x1.f4, .int .i64 x1.f5, .int .i64 x1.f6, .bool x1.f7, .bool x1.f8, .bool x1.f9, .slice A1_13 x1.f10.length c1_13, .int .i64 x1.f11, .int .i64 x1.f12, .int .i64 x1.f13, .slice A1_17 x1.f14.length c1_17, .int .i64 x1.f15, .int .i64 x1.f16] := by rw [← Array.toArray_toList (xs := cs1), hc1]
  clear hA0 hval0 hsz0 hsz
  obtain ⟨k, hp⟩ := Pure.FnExactSameShown x0 x1 ok0 ok1
  refine (laws_FnExactSameShown.calls k x0.f0.f0 x0.f0.f1 A0_2 c0_2 x0.f0.f2 A0_3 c0_3 x0.f0.f3 x0.f1 x0.f2 x0.f3 x0.f4 x0.f5 x0.f6 x0.f7 x0.f8 x0.f9 A0_13 c0_13 x0.f10 x0.f11 x0.f12 x0.f13 A0_17 c0_17 x0.f14 x0.f15 x0.f16 x1.f0.f0 x1.f0.f1 A1_2 c1_2 x1.f0.f2 A1_3 c1_3 x1.f0.f3 x1.f1 x1.f2 x1.f3 x1.f4 x1.f5 x1.f6 x1.f7 x1.f8 x1.f9 A1_13 c1_13 x1.f10 x1.f11 x1.f12 x1.f13 A1_17 c1_17 x1.f14 x1.f15 x1.f16 W g0_2 l0_2 g0_3 l0_3 g0_13 l0_13 g0_17 l0_17 g1_2 l1_2 g1_3 l1_3 g1_13 l1_13 g1_17 l1_17 hp).mono fun e W' ⟨he, bel⟩ => ?_
  subst he
  exact ⟨_, rfl, _, _, _, [], _, [], hW', trodAll_mk1 (shut_bool Try.underlying4 _), (trodAll_cons_mk (Below.trod laidOut (by kernel_rfl) (of_decide_eq_true (by kernel_rfl)) k0 bel lt0) (trodAll_cons_mk (Below.trod laidOut (by kernel_rfl) (of_decide_eq_true (by kernel_rfl)) k1 bel lt1) trodAll_mk0)), rfl, bel.frame _, fun h => by cases h⟩
theorem over : Rows.fnExactSameShownRow.holds Try.pinned (OpenSpec.ofChange Rows.fnExactSameShownSpec) :=
  OpenClaim.holds_of_wide 9 Try.f9 rfl rfl rfl rfl rfl rfl rfl ⟨rfl, rfl, rfl, rfl, rfl⟩ rfl rfl rfl rfl rfl (by kernel_rfl) Try.func9 (by kernel_rfl)
    (of_decide_eq_true (by kernel_rfl)) (by unfold Func.isWrapper; first | (rw [if_pos (by decide +kernel)]; kernel_rfl) | (rw [if_neg (by decide +kernel)]; exact ⟨rfl, rfl⟩))
    (fun os started H enc _ => lifted os started H enc)
theorem proved : Rows.FnExactSameShownSaid := over
#print axioms proved
end Go.Proofs.Ytagipnepckgdfaa.fnExactSameShown
namespace Go.Proofs.Ytagipnepckgdfaa
/-- The row, under a short name, for the claim. -/
theorem fnExactSameShown_holds : Rows.FnExactSameShownSaid := fnExactSameShown.proved
end Go.Proofs.Ytagipnepckgdfaa
