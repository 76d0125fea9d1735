/- TranslateChar: for every table and every number the program's answer is the reference's. No condition. -/
import Derived.Test.YtomcgieedcbpbaaPFnExactTranslateCharx
import Derived.Test.YtomcgieedcbpbaaPlain
namespace Go.Proofs.Ytomcgieedcbpbaa.Pure
open Go Go.RowKit Go.Proofs.Ytomcgieedcbpbaa.PFnExactTranslateChar Go.Proofs.YtomcgieedcbpbaaW.PrintWords Go.Proofs.YtomcgieedcbpbaaW.PrintLast Go.Proofs.YtomcgieedcbpbaaPlain

theorem spec_l1In_eq (x a b : Int) : spec_l1In.f x a b = some (decide (a ≤ x ∧ x ≤ b)) := by
  unfold spec_l1In.f
  split <;> (congr 1; simp_all) <;> omega

theorem impl_in_eq (x a b : Int) : impl_in.f x a b = some (decide (a ≤ x ∧ x ≤ b)) := by
  unfold impl_in.f
  split <;> (congr 1; simp_all) <;> omega

theorem spec_l1Char_eq (x : Int) : spec_l1Char.f x = some (isCh x) := by
  unfold spec_l1Char.f isCh
  simp only [spec_l1In_eq, Option.bind_some]
  by_cases h : 0 ≤ x ∧ x ≤ 55295
  · simp [h]
  · rw [if_neg (by simpa using h)]
    congr 1
    simp only [h, false_or]

theorem impl_isChar_eq (x : Int) : impl_isChar.f x = some (isCh x) := by
  unfold impl_isChar.f isCh
  simp only [impl_in_eq, Option.bind_some]
  by_cases h : 0 ≤ x ∧ x ≤ 65535
  · rw [if_pos (by simpa using h), ← decide_not]
    congr 1
    refine decide_eq_decide.2 ?_
    omega
  · rw [if_neg (by simpa using h)]
    congr 1
    symm
    rw [decide_eq_false_iff_not]
    omega

theorem translated_eq (k : Nat) (t x : Int) : impl_translated.f (k + 1) t x = spec_l2Translate.f (k + 1) t x := by
  unfold impl_translated.f spec_l2Translate.f
  simp only [impl_in_eq, spec_l1In_eq, Option.bind_some, impl_translated.j0, spec_l2Translate.j0]
theorem translate_some (k : Nat) (t x : Int) : ∃ r, spec_l2Translate.f (k + 1) t x = some r := by
  unfold spec_l2Translate.f
  simp only [spec_l1In_eq, Option.bind_some, spec_l2Translate.j0]
  repeat' split
  all_goals exact ⟨_, rfl⟩
theorem FnExactTranslateChar : laws_FnExactTranslateChar.Pure := by
  intro t x ht hx
  refine ⟨1, ?_⟩
  obtain ⟨v, hv⟩ := translate_some 0 t x
  obtain ⟨r, hr1, hr2⟩ : ∃ r : Int × Int, spec_TranslateChar.f 1 t x = some r ∧ impl_TranslateChar.f 1 t x = some r := by
    unfold spec_TranslateChar.f impl_TranslateChar.f spec_l2Table.f
    simp only [spec_l1In_eq, impl_in_eq, spec_l1Char_eq, impl_isChar_eq, Option.bind_some]
    by_cases h : 1 ≤ t ∧ t ≤ 3
    · simp only [h, and_self, decide_true, if_true]
      by_cases h2 : isCh x = true
      · rw [if_pos h2, if_pos h2, translated_eq, hv]
        exact ⟨_, rfl, rfl⟩
      · rw [if_neg h2, if_neg h2]
        exact ⟨_, rfl, rfl⟩
    · simp only [h, decide_false, Bool.false_eq_true, if_false]
      exact ⟨_, rfl, rfl⟩
  unfold laws_FnExactTranslateChar.f laws_eqIntResult.f
  rw [hr1, hr2]
  simp

end Go.Proofs.Ytomcgieedcbpbaa.Pure
