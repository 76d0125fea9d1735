-- The row of the law FnExactActionFault: for every input of its parameters' types the call returns true. Written for this claim by a program of this session's (wip/mkrow.py).
import Derived.Test.YtagipnepckgdfaaRows
import Derived.Test.YtagipnepckgdfaaPFnExactActionFaultx
import Derived.Test.YtagipnepckgdfaaPureFnExactActionFault
import Derived.Test.YtagipnepckgdfaaOpen
import Derived.WalkKit
import Derived.ProofKit
import Derived.OpenShut
import Derived.ShutString
import Derived.ChangeOld
import Derived.Below
import Derived.SizedLaws
namespace Go.Proofs.Ytagipnepckgdfaa.fnExactActionFault
open Go.ChangeShapes Go.WideShapes Go.ChangeAt Go.RowKit Go.Proofs.Ytagipnepckgdfaa.PFnExactActionFault Go.Proofs.YtagipnepckgdfaaW.PrintWords Go.Proofs.YtagipnepckgdfaaOpen
open Go.ChangeMaps (open_string shut_string)
set_option linter.unusedVariables false
theorem own : ownKnob Try.prog.godebug = none := by kernel_rfl
theorem laidOut : laidOutB Try.prog = true := by kernel_rfl
theorem okWide_struct {P : Program} {w : World} {r : Reach} {b t : Nat} {fs : Array Field} {v : Value} (hu : P.underlying t = some (.struct fs)) (h : Value.okWide P w r b t v) : ∃ cs, v = .agg cs := by
  unfold Value.okWide at h
  rw [hu] at h
  obtain ⟨cs, e, _⟩ := h
  exact ⟨cs, e⟩
theorem fits2 : Fits Try.prog 2 (Kd.int .i64) (fun x => (Lit.int .i64 x).wf = true) := fits_int Try.underlying2 (by kernel_rfl)
theorem fits4 : Fits Try.prog 4 Kd.bool (fun x => True) := fits_bool Try.underlying4 (by kernel_rfl)
theorem fits22 : Fits Try.prog 22 (Kd.slice 2 (Kd.int .i64)) (fun x => x.length ≤ maxLen ∧ x.length * 8 ≤ 140737488351232 ∧ ∀ y ∈ x, (Lit.int .i64 y).wf = true) := fits_slice Try.underlying22 (by kernel_rfl) (by kernel_rfl) fits2
theorem fits24 : Fits Try.prog 24 k24 (fun x => ((Lit.int .i64 x.f0).wf = true) ∧ ((Lit.int .i64 x.f1).wf = true) ∧ ((Lit.int .i64 x.f2).wf = true) ∧ (True) ∧ (x.f4.length ≤ maxLen ∧ x.f4.length * 8 ≤ 140737488351232 ∧ ∀ y ∈ x.f4, (Lit.int .i64 y).wf = true)) := by
  have h := fits_struct (d := k24) Try.underlying24 (by kernel_rfl) (fits_iso _ (fun x => (⟨x.1, x.2.1, x.2.2.1, x.2.2.2.1, x.2.2.2.2⟩ : S24)) (fun _ => rfl) (fits_cons rfl fits2 (fits_cons rfl fits2 (fits_cons rfl fits2 (fits_cons rfl fits4 (fits_one rfl fits22))))))
  exact h.mono (fun _ h => h)
set_option maxRecDepth 100000 in
theorem lifted (os : Os) (started : os.Started) (H : Type) (enc : TypeId × Value → H) :
    ReturnsInHanded {} Try.checked os 3 .any (Rows.fnExactActionFaultSpec.pre6 enc Try.prog Try.f3 Rows.fnExactActionFaultRow.domain false) (Rows.fnExactActionFaultSpec.post enc Try.prog Try.f3 false true false false) := by
  refine returnsInHanded_of_change_sized (C := Try.checked) own started (by kernel_rfl) Try.func3
    (ChangeSpec.witness6 (enc := enc) (C := Try.checked) false ⟨#[], #[.agg #[(.int .i64 0), (.int .i64 0), (.int .i64 0), (.bool false), (.slice none 0 0)]], []⟩ 8 (by kernel_rfl) (by kernel_rfl) (by kernel_rfl) (by kernel_rfl)) ?_
  intro W base args ds gs before hval0 hW hcnd hsz0 _
  have hsz : (DataW.weightsEach Try.prog (Try.f3.params.toList ++ Rows.fnExactActionFaultSpec.plain.varTypes Try.prog) (ds ++ gs)).all (· ≤ reachBytes) = true := hsz0
  have hval : ∀ (j : Nat) t v, Try.f3.params[j]? = some t → args[j]? = some v → Value.okWide Try.prog W .any base t v := hval0
  have hW' := hW
  obtain ⟨p, q, hA0, hV, rfl, hfz, hnd⟩ := hW
  have hA : DataW.TrodAll enc Try.prog W 0 (fun _ => true) true Try.f3.params.toList args.toList ds p := hA0
  rw [Try.params3] at hA hval hsz
  obtain ⟨v0, vs0, d0, ds0, p0, q0, hargs, rfl, rfl, h0, r0⟩ := trodAll_cons hA
  obtain ⟨rfl, rfl, rfl⟩ := trodAll_nil r0
  obtain rfl : args = #[v0] := by cases args; simp_all
  obtain ⟨rfl, rfl⟩ := trodVars_none hV
  have k0 := h0
  have lt0 : ∀ x ∈ p0, x.block < W.heap.size := by obtain ⟨m, hm⟩ := k0; exact DataW.trod_lt m _ _ _ hm
  obtain ⟨x0, hx0, ok0⟩ := fits24.arg h0 (weights_arg hsz (j := 0) (t := 24) rfl rfl)
  obtain ⟨cs0, rfl⟩ := okWide_struct Try.underlying24 (hval 0 24 v0 rfl rfl)
  have hx0' : k24.K W x0 cs0.toList := by simpa [Value.cells] using hx0
  obtain ⟨A0_4, c0_4, hc0, l0_4, g0_4⟩ := k24_open hx0'
  obtain rfl : cs0 = #[.int .i64 x0.f0, .int .i64 x0.f1, .int .i64 x0.f2, .bool x0.f3, .slice A0_4 x0.f4.length c0_4] := by rw [← Array.toArray_toList (xs := cs0), hc0]
  clear hA0 hval0 hsz0 hsz
  obtain ⟨k, hp⟩ := Pure.FnExactActionFault x0 ok0
  refine (laws_FnExactActionFault.calls k x0.f0 x0.f1 x0.f2 x0.f3 A0_4 c0_4 x0.f4 W g0_4 l0_4 hp).mono fun e W' ⟨he, bel⟩ => ?_
  subst he
  exact ⟨_, rfl, _, _, _, [], _, [], hW', trodAll_mk1 (shut_bool Try.underlying4 _), (trodAll_cons_mk (Below.trod laidOut (by kernel_rfl) (of_decide_eq_true (by kernel_rfl)) k0 bel lt0) trodAll_mk0), rfl, bel.frame _, fun h => by cases h⟩
theorem over : Rows.fnExactActionFaultRow.holds Try.pinned (OpenSpec.ofChange Rows.fnExactActionFaultSpec) :=
  OpenClaim.holds_of_wide 3 Try.f3 rfl rfl rfl rfl rfl rfl rfl ⟨rfl, rfl, rfl, rfl, rfl⟩ rfl rfl rfl rfl rfl (by kernel_rfl) Try.func3 (by kernel_rfl)
    (of_decide_eq_true (by kernel_rfl)) (by unfold Func.isWrapper; first | (rw [if_pos (by decide +kernel)]; kernel_rfl) | (rw [if_neg (by decide +kernel)]; exact ⟨rfl, rfl⟩))
    (fun os started H enc _ => lifted os started H enc)
theorem proved : Rows.FnExactActionFaultSaid := over
#print axioms proved
end Go.Proofs.Ytagipnepckgdfaa.fnExactActionFault
namespace Go.Proofs.Ytagipnepckgdfaa
/-- The row, under a short name, for the claim. -/
theorem fnExactActionFault_holds : Rows.FnExactActionFaultSaid := fnExactActionFault.proved
end Go.Proofs.Ytagipnepckgdfaa
