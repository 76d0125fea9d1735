/- DecoderFault: for every decoder the program's answer is the reference's. No condition. -/
import Derived.Test.YtomcgieedcbpbaaPFnExactDecoderFaultx
import Derived.Test.YtomcgieedcbpbaaPlain
namespace Go.Proofs.Ytomcgieedcbpbaa.Pure
open Go Go.RowKit Go.Proofs.Ytomcgieedcbpbaa.PFnExactDecoderFault Go.Proofs.YtomcgieedcbpbaaW.PrintWords Go.Proofs.YtomcgieedcbpbaaW.PrintLast Go.Proofs.YtomcgieedcbpbaaPlain
set_option linter.unusedVariables false
set_option linter.unusedSimpArgs false

instance : DecidableEq S23 := fun a b => match a, b with
  | ⟨a0, a1, a2⟩, ⟨b0, b1, b2⟩ => decidable_of_iff (a0 = b0 ∧ a1 = b1 ∧ a2 = b2) (by simp)

theorem spec_l1In_eq (x a b : Int) : spec_l1In.f x a b = some (decide (a ≤ x ∧ x ≤ b)) := by
  unfold spec_l1In.f
  split <;> (congr 1; simp_all) <;> omega

theorem impl_in_eq (x a b : Int) : impl_in.f x a b = some (decide (a ≤ x ∧ x ≤ b)) := by
  unfold impl_in.f
  split <;> (congr 1; simp_all) <;> omega

/-- What is wrong with a decoder. -/
def decF (a b x : Int) : Int := if (a = 0 ∧ b = 0 ∧ x = 0) ∨ (a = 1 ∧ b = 128 ∧ 2 ≤ x ∧ x ≤ 31) ∨ (a = 2 ∧ b = 2048 ∧ 0 ≤ x ∧ x ≤ 15) ∨ (a = 1 ∧ b = 2048 ∧ 0 ≤ x ∧ x ≤ 1023) then 0 else 3
theorem spec_l1Fault_eq {k : Nat} (hk : 3 ≤ k) (a b x : Int) : spec_l1Fault.f k a b x = some (decF a b x) := by
  obtain ⟨k, rfl⟩ : ∃ m, k = m + 3 := ⟨k - 3, by omega⟩
  unfold spec_l1Fault.f decF
  simp only [spec_l1In_eq, Option.bind_some, spec_l1Fault.j0, spec_l1Fault.j1]
  by_cases h0 : a = 0
  · subst h0
    by_cases h1 : b = 0 <;> by_cases h2 : x = 0 <;> simp [h1, h2]
  · by_cases h1 : a = 1
    · subst h1
      by_cases h2 : b = 128
      · subst h2
        by_cases h3 : 2 ≤ x ∧ x ≤ 31 <;> simp [h3]
      · by_cases h3 : b = 2048
        · subst h3
          by_cases h4 : 0 ≤ x ∧ x ≤ 1023 <;> simp [h4]
        · simp [h2, h3]
    · by_cases h2 : a = 2
      · subst h2
        by_cases h3 : b = 2048
        · subst h3
          by_cases h4 : 0 ≤ x ∧ x ≤ 15 <;> simp [h4]
        · simp [h3]
      · simp [h0, h1, h2]
theorem impl_DecoderFault_eq {k : Nat} (hk : 3 ≤ k) (a b x : Int) : impl_DecoderFault.f k a b x = some (decF a b x) := by
  obtain ⟨k, rfl⟩ : ∃ m, k = m + 3 := ⟨k - 3, by omega⟩
  unfold impl_DecoderFault.f decF
  simp only [impl_in_eq, Option.bind_some, impl_DecoderFault.j0, impl_DecoderFault.j1]
  by_cases h0 : a = 0
  · subst h0
    by_cases h1 : b = 0 <;> by_cases h2 : x = 0 <;> simp [h1, h2]
  · by_cases h1 : a = 1
    · subst h1
      by_cases h2 : b = 128
      · subst h2
        by_cases h3 : 2 ≤ x ∧ x ≤ 31 <;> simp [h3]
      · by_cases h3 : b = 2048
        · subst h3
          by_cases h4 : 0 ≤ x ∧ x ≤ 1023 <;> simp [h4]
        · simp [h2, h3]
    · by_cases h2 : a = 2
      · subst h2
        by_cases h3 : b = 2048
        · subst h3
          by_cases h4 : 0 ≤ x ∧ x ≤ 15 <;> simp [h4]
        · simp [h3]
      · simp [h0, h1, h2]

theorem FnExactDecoderFault : ∀ (x0 : S23), (((Lit.int .i64 x0.f0).wf = true) ∧ ((Lit.int .i64 x0.f1).wf = true) ∧ ((Lit.int .i64 x0.f2).wf = true)) → ∃ k, laws_FnExactDecoderFault.f k x0.f0 x0.f1 x0.f2 = some true := by
  intro x hx
  refine ⟨3, ?_⟩
  unfold laws_FnExactDecoderFault.f laws_toDecoder.f spec_DecoderFault.f
  simp only [Option.bind_some]
  rw [spec_l1Fault_eq (by omega), impl_DecoderFault_eq (by omega)]
  simp

end Go.Proofs.Ytomcgieedcbpbaa.Pure
