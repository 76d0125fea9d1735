-- The row of the law FnExactPutBind: for every input of its parameters' types the call returns true. Written for this claim by a program of this session's (wip/mkrow.py).
import Derived.Test.YtpoafgokngpglaaRows
import Derived.Test.YtpoafgokngpglaaPFnExactPutBindx
import Derived.Test.YtpoafgokngpglaaPureFnExactPutBind
import Derived.Test.YtpoafgokngpglaaQbOpen
import Derived.WalkKit
import Derived.ProofKit
import Derived.OpenShut
import Derived.ShutString
import Derived.ChangeOld
import Derived.Below
import Derived.SizedLaws
namespace Go.Proofs.Ytpoafgokngpglaa.fnExactPutBind
open Go.ChangeShapes Go.WideShapes Go.ChangeAt Go.RowKit Go.Proofs.Ytpoafgokngpglaa.PFnExactPutBind Go.Proofs.YtpoafgokngpglaaW.PrintWords Go.Proofs.YtpoafgokngpglaaOpen
open Go.ChangeMaps (open_string shut_string)
set_option linter.unusedVariables false
theorem own : ownKnob Try.prog.godebug = none := by kernel_rfl
theorem laidOut : laidOutB Try.prog = true := by kernel_rfl
theorem okWide_struct {P : Program} {w : World} {r : Reach} {b t : Nat} {fs : Array Field} {v : Value} (hu : P.underlying t = some (.struct fs)) (h : Value.okWide P w r b t v) : ∃ cs, v = .agg cs := by
  unfold Value.okWide at h
  rw [hu] at h
  obtain ⟨cs, e, _⟩ := h
  exact ⟨cs, e⟩
theorem fits2 : Fits Try.prog 2 (Kd.int .i64) (fun x => (Lit.int .i64 x).wf = true) := fits_int Try.underlying2 (by kernel_rfl)
theorem fits53 : Fits Try.prog 53 k53 (fun x => ((Lit.int .i64 x.f0).wf = true) ∧ ((Lit.int .i64 x.f1).wf = true)) := by
  have h := fits_struct (d := k53) Try.underlying53 (by kernel_rfl) (fits_iso _ (fun x => (⟨x.1, x.2⟩ : S53)) (fun _ => rfl) (fits_cons rfl fits2 (fits_one rfl fits2)))
  exact h.mono (fun _ h => h)
theorem fits55 : Fits Try.prog 55 k55 (fun x => ((Lit.int .i64 x.f0).wf = true) ∧ ((Lit.int .i64 x.f1).wf = true) ∧ (((Lit.int .i64 x.f2.f0).wf = true) ∧ ((Lit.int .i64 x.f2.f1).wf = true))) := by
  have h := fits_struct (d := k55) Try.underlying55 (by kernel_rfl) (fits_iso _ (fun x => (⟨x.1, x.2.1, x.2.2⟩ : S55)) (fun _ => rfl) (fits_cons rfl fits2 (fits_cons rfl fits2 (fits_one rfl fits53))))
  exact h.mono (fun _ h => h)
theorem fits51 : Fits Try.prog 51 (Kd.slice 55 k55) (fun x => x.length ≤ maxLen ∧ x.length * 32 ≤ 140737488351232 ∧ ∀ y ∈ x, ((Lit.int .i64 y.f0).wf = true) ∧ ((Lit.int .i64 y.f1).wf = true) ∧ (((Lit.int .i64 y.f2.f0).wf = true) ∧ ((Lit.int .i64 y.f2.f1).wf = true))) := fits_slice Try.underlying51 (by kernel_rfl) (by kernel_rfl) fits55
set_option maxRecDepth 100000 in
theorem lifted (os : Os) (started : os.Started) (H : Type) (enc : TypeId × Value → H) :
    ReturnsInHanded {} Try.checked os 5 .any (Rows.fnExactPutBindSpec.pre6 enc Try.prog Try.f5 Rows.fnExactPutBindRow.domain false) (Rows.fnExactPutBindSpec.post enc Try.prog Try.f5 false true false false) := by
  refine returnsInHanded_of_change_sized (C := Try.checked) own started (by kernel_rfl) Try.func5
    (ChangeSpec.witness6 (enc := enc) (C := Try.checked) false ⟨#[], #[.slice none 0 0, .agg #[(.int .i64 0), (.int .i64 0), (.int .i64 0), (.int .i64 0)]], []⟩ 8 (by kernel_rfl) (by kernel_rfl) (by kernel_rfl) (by kernel_rfl)) ?_
  intro W base args ds gs before hval0 hW hcnd hsz0 _
  have hsz : (DataW.weightsEach Try.prog (Try.f5.params.toList ++ Rows.fnExactPutBindSpec.plain.varTypes Try.prog) (ds ++ gs)).all (· ≤ reachBytes) = true := hsz0
  have hval : ∀ (j : Nat) t v, Try.f5.params[j]? = some t → args[j]? = some v → Value.okWide Try.prog W .any base t v := hval0
  have hW' := hW
  obtain ⟨p, q, hA0, hV, rfl, hfz, hnd⟩ := hW
  have hA : DataW.TrodAll enc Try.prog W 0 (fun _ => true) true Try.f5.params.toList args.toList ds p := hA0
  rw [Try.params5] at hA hval hsz
  obtain ⟨v0, vs0, d0, ds0, p0, q0, hargs, rfl, rfl, h0, r0⟩ := trodAll_cons hA
  obtain ⟨v1, vs1, d1, ds1, p1, q1, rfl, rfl, rfl, h1, r1⟩ := trodAll_cons r0
  obtain ⟨rfl, rfl, rfl⟩ := trodAll_nil r1
  obtain rfl : args = #[v0, v1] := by cases args; simp_all
  obtain ⟨rfl, rfl⟩ := trodVars_none hV
  have k0 := h0
  have lt0 : ∀ x ∈ p0, x.block < W.heap.size := by obtain ⟨m, hm⟩ := k0; exact DataW.trod_lt m _ _ _ hm
  obtain ⟨x0, hx0, ok0⟩ := fits51.arg h0 (weights_arg hsz (j := 0) (t := 51) rfl rfl)
  obtain ⟨a0, len0, cap0, rfl⟩ := okWide_slice Try.underlying51 (hval 0 51 v0 rfl rfl)
  obtain ⟨A0, c0, hc0, l0, g0⟩ : ∃ A c, [Value.slice a0 len0 cap0] = [.slice A x0.length c] ∧ x0.length ≤ c ∧ k55.C W A x0.length x0 := by first | exact hx0 | simpa [Value.cells] using hx0
  obtain ⟨rfl, rfl, rfl⟩ : a0 = A0 ∧ len0 = x0.length ∧ cap0 = c0 := by simpa using hc0
  have k1 := h1
  have lt1 : ∀ x ∈ p1, x.block < W.heap.size := by obtain ⟨m, hm⟩ := k1; exact DataW.trod_lt m _ _ _ hm
  obtain ⟨x1, hx1, ok1⟩ := fits55.arg h1 (weights_arg hsz (j := 1) (t := 55) rfl rfl)
  obtain ⟨cs1, rfl⟩ := okWide_struct Try.underlying55 (hval 1 55 v1 rfl rfl)
  have hx1' : k55.K W x1 cs1.toList := by simpa [Value.cells] using hx1
  obtain hc1 := k55_open hx1'
  obtain rfl : cs1 = #[.int .i64 x1.f0, .int .i64 x1.f1, .int .i64 x1.f2.f0, .int .i64 x1.f2.f1] := by rw [← Array.toArray_toList (xs := cs1), hc1]
  clear hA0 hval0 hsz0 hsz
  obtain ⟨k, hp⟩ := Pure.FnExactPutBind x0 x1 ok0 ok1
  refine (laws_FnExactPutBind.calls k a0 cap0 x0 x1.f0 x1.f1 x1.f2.f0 x1.f2.f1 W g0 l0 hp).mono fun e W' ⟨he, bel⟩ => ?_
  subst he
  exact ⟨_, rfl, _, _, _, [], _, [], hW', trodAll_mk1 (shut_bool Try.underlying4 _), (trodAll_cons_mk (Below.trod laidOut (by kernel_rfl) (of_decide_eq_true (by kernel_rfl)) k0 bel lt0) (trodAll_cons_mk (Below.trod laidOut (by kernel_rfl) (of_decide_eq_true (by kernel_rfl)) k1 bel lt1) trodAll_mk0)), rfl, bel.frame _, fun h => by cases h⟩
theorem over : Rows.fnExactPutBindRow.holds Try.pinned (OpenSpec.ofChange Rows.fnExactPutBindSpec) :=
  OpenClaim.holds_of_wide 5 Try.f5 rfl rfl rfl rfl rfl rfl rfl ⟨rfl, rfl, rfl, rfl, rfl⟩ rfl rfl rfl rfl rfl (by kernel_rfl) Try.func5 (by kernel_rfl)
    (of_decide_eq_true (by kernel_rfl)) (by unfold Func.isWrapper; first | (rw [if_pos (by decide +kernel)]; kernel_rfl) | (rw [if_neg (by decide +kernel)]; exact ⟨rfl, rfl⟩))
    (fun os started H enc _ => lifted os started H enc)
theorem proved : Rows.FnExactPutBindSaid := over
#print axioms proved
end Go.Proofs.Ytpoafgokngpglaa.fnExactPutBind
namespace Go.Proofs.Ytpoafgokngpglaa
/-- The row, under a short name, for the claim. -/
theorem fnExactPutBind_holds : Rows.FnExactPutBindSaid := fnExactPutBind.proved
end Go.Proofs.Ytpoafgokngpglaa
