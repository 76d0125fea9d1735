-- The row of the law FnExactSymOf: for every input of its parameters' types the call returns true. Written for this claim by a program of this session's (wip/mkrow.py).
import Derived.Test.YticblminpeodjaaRows
import Derived.Test.YticblminpeodjaaPFnExactSymOfx
import Derived.Test.YticblminpeodjaaPureFnExactSymOf
import Derived.Test.YticblminpeodjaaOpen
import Derived.WalkKit
import Derived.ProofKit
import Derived.OpenShut
import Derived.ShutString
import Derived.ChangeOld
import Derived.Below
import Derived.SizedLaws
namespace Go.Proofs.Yticblminpeodjaa.fnExactSymOf
open Go.ChangeShapes Go.WideShapes Go.ChangeAt Go.RowKit Go.Proofs.Yticblminpeodjaa.PFnExactSymOf Go.Proofs.YticblminpeodjaaW.PrintWords Go.Proofs.YticblminpeodjaaOpen
open Go.ChangeMaps (open_string shut_string)
set_option linter.unusedVariables false
theorem own : ownKnob Try.prog.godebug = none := by kernel_rfl
theorem laidOut : laidOutB Try.prog = true := by kernel_rfl
theorem okWide_struct {P : Program} {w : World} {r : Reach} {b t : Nat} {fs : Array Field} {v : Value} (hu : P.underlying t = some (.struct fs)) (h : Value.okWide P w r b t v) : ∃ cs, v = .agg cs := by
  unfold Value.okWide at h
  rw [hu] at h
  obtain ⟨cs, e, _⟩ := h
  exact ⟨cs, e⟩
theorem fits2 : Fits Try.prog 2 (Kd.int .i64) (fun x => (Lit.int .i64 x).wf = true) := fits_int Try.underlying2 (by kernel_rfl)
theorem fits23 : Fits Try.prog 23 k23 (fun x => ((Lit.int .i64 x.f0).wf = true) ∧ ((Lit.int .i64 x.f1).wf = true)) := by
  have h := fits_struct (d := k23) Try.underlying23 (by kernel_rfl) (fits_iso _ (fun x => (⟨x.1, x.2⟩ : S23)) (fun _ => rfl) (fits_cons rfl fits2 (fits_one rfl fits2)))
  exact h.mono (fun _ h => h)
theorem fits63 : Fits Try.prog 63 k63 (fun x => ((Lit.int .i64 x.f0).wf = true) ∧ ((Lit.int .i64 x.f1).wf = true) ∧ (((Lit.int .i64 x.f2.f0).wf = true) ∧ ((Lit.int .i64 x.f2.f1).wf = true))) := by
  have h := fits_struct (d := k63) Try.underlying63 (by kernel_rfl) (fits_iso _ (fun x => (⟨x.1, x.2.1, x.2.2⟩ : S63)) (fun _ => rfl) (fits_cons rfl fits2 (fits_cons rfl fits2 (fits_one rfl fits23))))
  exact h.mono (fun _ h => h)
theorem fits50 : Fits Try.prog 50 (Kd.slice 63 k63) (fun x => x.length ≤ maxLen ∧ x.length * 32 ≤ 140737488351232 ∧ ∀ y ∈ x, ((Lit.int .i64 y.f0).wf = true) ∧ ((Lit.int .i64 y.f1).wf = true) ∧ (((Lit.int .i64 y.f2.f0).wf = true) ∧ ((Lit.int .i64 y.f2.f1).wf = true))) := fits_slice Try.underlying50 (by kernel_rfl) (by kernel_rfl) fits63
set_option maxRecDepth 100000 in
theorem lifted (os : Os) (started : os.Started) (H : Type) (enc : TypeId × Value → H) :
    ReturnsInHanded {} Try.checked os 9 .any (Rows.fnExactSymOfSpec.pre6 enc Try.prog Try.f9 Rows.fnExactSymOfRow.domain false) (Rows.fnExactSymOfSpec.post enc Try.prog Try.f9 false true false false) := by
  refine returnsInHanded_of_change_sized (C := Try.checked) own started (by kernel_rfl) Try.func9
    (ChangeSpec.witness6 (enc := enc) (C := Try.checked) false ⟨#[], #[.slice none 0 0, .int .i64 0, .int .i64 0], []⟩ 8 (by kernel_rfl) (by kernel_rfl) (by kernel_rfl) (by kernel_rfl)) ?_
  intro W base args ds gs before hval0 hW hcnd hsz0 _
  have hsz : (DataW.weightsEach Try.prog (Try.f9.params.toList ++ Rows.fnExactSymOfSpec.plain.varTypes Try.prog) (ds ++ gs)).all (· ≤ reachBytes) = true := hsz0
  have hval : ∀ (j : Nat) t v, Try.f9.params[j]? = some t → args[j]? = some v → Value.okWide Try.prog W .any base t v := hval0
  have hW' := hW
  obtain ⟨p, q, hA0, hV, rfl, hfz, hnd⟩ := hW
  have hA : DataW.TrodAll enc Try.prog W 0 (fun _ => true) true Try.f9.params.toList args.toList ds p := hA0
  rw [Try.params9] at hA hval hsz
  obtain ⟨v0, vs0, d0, ds0, p0, q0, hargs, rfl, rfl, h0, r0⟩ := trodAll_cons hA
  obtain ⟨v1, vs1, d1, ds1, p1, q1, rfl, rfl, rfl, h1, r1⟩ := trodAll_cons r0
  obtain ⟨v2, vs2, d2, ds2, p2, q2, rfl, rfl, rfl, h2, r2⟩ := trodAll_cons r1
  obtain ⟨rfl, rfl, rfl⟩ := trodAll_nil r2
  obtain rfl : args = #[v0, v1, v2] := by cases args; simp_all
  obtain ⟨rfl, rfl⟩ := trodVars_none hV
  have k0 := h0
  have lt0 : ∀ x ∈ p0, x.block < W.heap.size := by obtain ⟨m, hm⟩ := k0; exact DataW.trod_lt m _ _ _ hm
  obtain ⟨x0, hx0, ok0⟩ := fits50.arg h0 (weights_arg hsz (j := 0) (t := 50) rfl rfl)
  obtain ⟨a0, len0, cap0, rfl⟩ := okWide_slice Try.underlying50 (hval 0 50 v0 rfl rfl)
  obtain ⟨A0, c0, hc0, l0, g0⟩ : ∃ A c, [Value.slice a0 len0 cap0] = [.slice A x0.length c] ∧ x0.length ≤ c ∧ k63.C W A x0.length x0 := by first | exact hx0 | simpa [Value.cells] using hx0
  obtain ⟨rfl, rfl, rfl⟩ : a0 = A0 ∧ len0 = x0.length ∧ cap0 = c0 := by simpa using hc0
  obtain ⟨x1, rfl, rfl, rfl, ok1⟩ := open_int Try.underlying2 (hval 1 2 v1 rfl rfl) h1
  obtain ⟨x2, rfl, rfl, rfl, ok2⟩ := open_int Try.underlying2 (hval 2 2 v2 rfl rfl) h2
  clear hA0 hval0 hsz0 hsz
  obtain ⟨k, hp⟩ := Pure.FnExactSymOf x0 x1 x2 ok0 ok1 ok2
  refine (laws_FnExactSymOf.calls k a0 cap0 x0 x1 x2 W g0 l0 hp).mono fun e W' ⟨he, bel⟩ => ?_
  subst he
  exact ⟨_, rfl, _, _, _, [], _, [], hW', trodAll_mk1 (shut_bool Try.underlying4 _), (trodAll_cons_mk (Below.trod laidOut (by kernel_rfl) (of_decide_eq_true (by kernel_rfl)) k0 bel lt0) (trodAll_cons_mk (shut_int Try.underlying2 ok1) (trodAll_cons_mk (shut_int Try.underlying2 ok2) trodAll_mk0))), rfl, bel.frame _, fun h => by cases h⟩
theorem over : Rows.fnExactSymOfRow.holds Try.pinned (OpenSpec.ofChange Rows.fnExactSymOfSpec) :=
  OpenClaim.holds_of_wide 9 Try.f9 rfl rfl rfl rfl rfl rfl rfl ⟨rfl, rfl, rfl, rfl, rfl⟩ rfl rfl rfl rfl rfl (by kernel_rfl) Try.func9 (by kernel_rfl)
    (of_decide_eq_true (by kernel_rfl)) (by unfold Func.isWrapper; first | (rw [if_pos (by decide +kernel)]; kernel_rfl) | (rw [if_neg (by decide +kernel)]; exact ⟨rfl, rfl⟩))
    (fun os started H enc _ => lifted os started H enc)
theorem proved : Rows.FnExactSymOfSaid := over
#print axioms proved
end Go.Proofs.Yticblminpeodjaa.fnExactSymOf
namespace Go.Proofs.Yticblminpeodjaa
/-- The row, under a short name, for the claim. -/
theorem fnExactSymOf_holds : Rows.FnExactSymOfSaid := fnExactSymOf.proved
end Go.Proofs.Yticblminpeodjaa
