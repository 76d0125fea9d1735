-- The row of the law FnExactGridFault: for every input of its parameters' types the call returns true. Written for this claim by a program of this session's (wip/mkrow.py).
import Derived.Test.YtagipnepckgdfaaRows
import Derived.Test.YtagipnepckgdfaaPFnExactGridFaultx
import Derived.Test.YtagipnepckgdfaaPureFnExactGridFault
import Derived.Test.YtagipnepckgdfaaOpen
import Derived.WalkKit
import Derived.ProofKit
import Derived.OpenShut
import Derived.ShutString
import Derived.ChangeOld
import Derived.Below
import Derived.SizedLaws
namespace Go.Proofs.Ytagipnepckgdfaa.fnExactGridFault
open Go.ChangeShapes Go.WideShapes Go.ChangeAt Go.RowKit Go.Proofs.Ytagipnepckgdfaa.PFnExactGridFault Go.Proofs.YtagipnepckgdfaaW.PrintWords Go.Proofs.YtagipnepckgdfaaOpen
open Go.ChangeMaps (open_string shut_string)
set_option linter.unusedVariables false
theorem own : ownKnob Try.prog.godebug = none := by kernel_rfl
theorem laidOut : laidOutB Try.prog = true := by kernel_rfl
theorem okWide_struct {P : Program} {w : World} {r : Reach} {b t : Nat} {fs : Array Field} {v : Value} (hu : P.underlying t = some (.struct fs)) (h : Value.okWide P w r b t v) : ∃ cs, v = .agg cs := by
  unfold Value.okWide at h
  rw [hu] at h
  obtain ⟨cs, e, _⟩ := h
  exact ⟨cs, e⟩
theorem fits2 : Fits Try.prog 2 (Kd.int .i64) (fun x => (Lit.int .i64 x).wf = true) := fits_int Try.underlying2 (by kernel_rfl)
theorem fits130 : Fits Try.prog 130 k130 (fun x => ((Lit.int .i64 x.f0).wf = true) ∧ ((Lit.int .i64 x.f1).wf = true)) := by
  have h := fits_struct (d := k130) Try.underlying130 (by kernel_rfl) (fits_iso _ (fun x => (⟨x.1, x.2⟩ : S130)) (fun _ => rfl) (fits_cons rfl fits2 (fits_one rfl fits2)))
  exact h.mono (fun _ h => h)
theorem fits40 : Fits Try.prog 40 (Kd.slice 130 k130) (fun x => x.length ≤ maxLen ∧ x.length * 16 ≤ 140737488351232 ∧ ∀ y ∈ x, ((Lit.int .i64 y.f0).wf = true) ∧ ((Lit.int .i64 y.f1).wf = true)) := fits_slice Try.underlying40 (by kernel_rfl) (by kernel_rfl) fits130
theorem fits42 : Fits Try.prog 42 k42 (fun x => ((Lit.int .i64 x.f0).wf = true) ∧ ((Lit.int .i64 x.f1).wf = true) ∧ (x.f2.length ≤ maxLen ∧ x.f2.length * 16 ≤ 140737488351232 ∧ ∀ y ∈ x.f2, ((Lit.int .i64 y.f0).wf = true) ∧ ((Lit.int .i64 y.f1).wf = true)) ∧ (x.f3.length ≤ maxLen ∧ x.f3.length * 16 ≤ 140737488351232 ∧ ∀ y ∈ x.f3, ((Lit.int .i64 y.f0).wf = true) ∧ ((Lit.int .i64 y.f1).wf = true))) := by
  have h := fits_struct (d := k42) Try.underlying42 (by kernel_rfl) (fits_iso _ (fun x => (⟨x.1, x.2.1, x.2.2.1, x.2.2.2⟩ : S42)) (fun _ => rfl) (fits_cons rfl fits2 (fits_cons rfl fits2 (fits_cons rfl fits40 (fits_one rfl fits40)))))
  exact h.mono (fun _ h => h)
set_option maxRecDepth 100000 in
theorem lifted (os : Os) (started : os.Started) (H : Type) (enc : TypeId × Value → H) :
    ReturnsInHanded {} Try.checked os 7 .any (Rows.fnExactGridFaultSpec.pre6 enc Try.prog Try.f7 Rows.fnExactGridFaultRow.domain false) (Rows.fnExactGridFaultSpec.post enc Try.prog Try.f7 false true false false) := by
  refine returnsInHanded_of_change_sized (C := Try.checked) own started (by kernel_rfl) Try.func7
    (ChangeSpec.witness6 (enc := enc) (C := Try.checked) false ⟨#[], #[.agg #[(.int .i64 0), (.int .i64 0), (.slice none 0 0), (.slice none 0 0)]], []⟩ 8 (by kernel_rfl) (by kernel_rfl) (by kernel_rfl) (by kernel_rfl)) ?_
  intro W base args ds gs before hval0 hW hcnd hsz0 _
  have hsz : (DataW.weightsEach Try.prog (Try.f7.params.toList ++ Rows.fnExactGridFaultSpec.plain.varTypes Try.prog) (ds ++ gs)).all (· ≤ reachBytes) = true := hsz0
  have hval : ∀ (j : Nat) t v, Try.f7.params[j]? = some t → args[j]? = some v → Value.okWide Try.prog W .any base t v := hval0
  have hW' := hW
  obtain ⟨p, q, hA0, hV, rfl, hfz, hnd⟩ := hW
  have hA : DataW.TrodAll enc Try.prog W 0 (fun _ => true) true Try.f7.params.toList args.toList ds p := hA0
  rw [Try.params7] at hA hval hsz
  obtain ⟨v0, vs0, d0, ds0, p0, q0, hargs, rfl, rfl, h0, r0⟩ := trodAll_cons hA
  obtain ⟨rfl, rfl, rfl⟩ := trodAll_nil r0
  obtain rfl : args = #[v0] := by cases args; simp_all
  obtain ⟨rfl, rfl⟩ := trodVars_none hV
  have k0 := h0
  have lt0 : ∀ x ∈ p0, x.block < W.heap.size := by obtain ⟨m, hm⟩ := k0; exact DataW.trod_lt m _ _ _ hm
  obtain ⟨x0, hx0, ok0⟩ := fits42.arg h0 (weights_arg hsz (j := 0) (t := 42) rfl rfl)
  obtain ⟨cs0, rfl⟩ := okWide_struct Try.underlying42 (hval 0 42 v0 rfl rfl)
  have hx0' : k42.K W x0 cs0.toList := by simpa [Value.cells] using hx0
  obtain ⟨A0_2, c0_2, A0_3, c0_3, hc0, l0_2, g0_2, l0_3, g0_3⟩ := k42_open hx0'
  obtain rfl : cs0 = #[.int .i64 x0.f0, .int .i64 x0.f1, .slice A0_2 x0.f2.length c0_2, .slice A0_3 x0.f3.length c0_3] := by rw [← Array.toArray_toList (xs := cs0), hc0]
  clear hA0 hval0 hsz0 hsz
  obtain ⟨k, hp⟩ := Pure.FnExactGridFault x0 ok0
  refine (laws_FnExactGridFault.calls k x0.f0 x0.f1 A0_2 c0_2 x0.f2 A0_3 c0_3 x0.f3 W g0_2 l0_2 g0_3 l0_3 hp).mono fun e W' ⟨he, bel⟩ => ?_
  subst he
  exact ⟨_, rfl, _, _, _, [], _, [], hW', trodAll_mk1 (shut_bool Try.underlying4 _), (trodAll_cons_mk (Below.trod laidOut (by kernel_rfl) (of_decide_eq_true (by kernel_rfl)) k0 bel lt0) trodAll_mk0), rfl, bel.frame _, fun h => by cases h⟩
theorem over : Rows.fnExactGridFaultRow.holds Try.pinned (OpenSpec.ofChange Rows.fnExactGridFaultSpec) :=
  OpenClaim.holds_of_wide 7 Try.f7 rfl rfl rfl rfl rfl rfl rfl ⟨rfl, rfl, rfl, rfl, rfl⟩ rfl rfl rfl rfl rfl (by kernel_rfl) Try.func7 (by kernel_rfl)
    (of_decide_eq_true (by kernel_rfl)) (by unfold Func.isWrapper; first | (rw [if_pos (by decide +kernel)]; kernel_rfl) | (rw [if_neg (by decide +kernel)]; exact ⟨rfl, rfl⟩))
    (fun os started H enc _ => lifted os started H enc)
theorem proved : Rows.FnExactGridFaultSaid := over
#print axioms proved
end Go.Proofs.Ytagipnepckgdfaa.fnExactGridFault
namespace Go.Proofs.Ytagipnepckgdfaa
/-- The row, under a short name, for the claim. -/
theorem fnExactGridFault_holds : Rows.FnExactGridFaultSaid := fnExactGridFault.proved
end Go.Proofs.Ytagipnepckgdfaa
