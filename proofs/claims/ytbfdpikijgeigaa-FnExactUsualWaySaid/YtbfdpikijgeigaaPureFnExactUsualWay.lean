/- UsualWay: for every number of flags the program's answer is the reference's. No condition. -/
import Derived.Test.YtbfdpikijgeigaaPFnExactUsualWayx
import Derived.Test.YtbfdpikijgeigaaPlain
namespace Go.Proofs.Ytbfdpikijgeigaa.Pure
open Go Go.RowKit Go.Proofs.Ytbfdpikijgeigaa.PFnExactUsualWay Go.Proofs.YtbfdpikijgeigaaW.PrintWords Go.Proofs.YtbfdpikijgeigaaW.PrintLast Go.Proofs.YtbfdpikijgeigaaPlain

theorem spec_l1In_eq (x a b : Int) : spec_l1In.f x a b = some (decide (a ≤ x ∧ x ≤ b)) := by
  unfold spec_l1In.f
  split <;> (congr 1; simp_all) <;> omega

theorem impl_in_eq (x a b : Int) : impl_in.f x a b = some (decide (a ≤ x ∧ x ≤ b)) := by
  unfold impl_in.f
  split <;> (congr 1; simp_all) <;> omega

theorem FnExactUsualWay : laws_FnExactUsualWay.Pure := by
  intro a ha
  unfold laws_FnExactUsualWay.f spec_UsualWay.f impl_UsualWay.f
  rw [spec_l1In_eq, impl_in_eq]
  simp only [Option.bind_some]
  by_cases h : 0 ≤ a ∧ a ≤ 511
  · simp [h, spec_l10Usual.f, impl_usual.f, laws_eqWayResult.f, laws_eqWay.f]
  · simp only [h, decide_false, Bool.false_eq_true, if_false]
    simp [laws_eqWayResult.f, laws_eqWay.f]

end Go.Proofs.Ytbfdpikijgeigaa.Pure
