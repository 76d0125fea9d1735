/- AccentChar: for every number the program's answer is the reference's: the accents are read off the package's table, of which the row tells what it holds. No condition. -/
import Derived.Test.YticblminpeodjaaDoorPFnExactAccentCharx1
namespace Go.Proofs.YticblminpeodjaaDoor.Pure
open Go Go.RowKit Go.Proofs.YticblminpeodjaaDoor.PFnExactAccentChar Go.Proofs.YticblminpeodjaaDoorW.PrintWords

theorem FnExactAccentChar (a : Int) : laws_FnExactAccentChar.f a = some true := by
  have e1 : ∀ x y z : Int, spec_l1In.f x y z = some (decide (y ≤ x ∧ x ≤ z)) := by
    intro x y z
    unfold spec_l1In.f
    split <;> (congr 1; simp_all) <;> omega
  have e2 : ∀ x y z : Int, impl_in.f x y z = some (decide (y ≤ x ∧ x ≤ z)) := by
    intro x y z
    unfold impl_in.f
    split <;> (congr 1; simp_all) <;> omega
  have hs : (spec_AccentChar.f a).isSome = true := by
    unfold spec_AccentChar.f
    simp only [e1, Option.bind_some]
    by_cases h : 1 ≤ a ∧ a ≤ 3
    · have h0 : 0 ≤ a := by omega
      have h1 : a < (([0, 96, 39, 34] : List Int).length : Int) := by simp; omega
      simp only [h, and_self, decide_true, if_true, h0, h1]
      rfl
    · simp only [h, decide_false, Bool.false_eq_true, if_false]
      rfl
  have hi : impl_AccentChar.f a = spec_AccentChar.f a := by
    unfold spec_AccentChar.f impl_AccentChar.f
    simp only [e1, e2]
  obtain ⟨r, h1⟩ := Option.isSome_iff_exists.1 hs
  have h2 : impl_AccentChar.f a = some r := hi.trans h1
  unfold laws_FnExactAccentChar.f laws_eqIntResult.f
  rw [h1, h2]
  simp

end Go.Proofs.YticblminpeodjaaDoor.Pure
