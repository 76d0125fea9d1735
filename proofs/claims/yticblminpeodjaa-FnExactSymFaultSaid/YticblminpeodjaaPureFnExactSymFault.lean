/- SymFault: for every sym the program's answer is the reference's. No condition. -/
import Derived.Test.YticblminpeodjaaPFnExactSymFaultx
import Derived.Test.YticblminpeodjaaPlain
namespace Go.Proofs.Yticblminpeodjaa.Pure
open Go Go.RowKit Go.Proofs.Yticblminpeodjaa.PFnExactSymFault Go.Proofs.YticblminpeodjaaW.PrintWords Go.Proofs.YticblminpeodjaaW.PrintLast Go.Proofs.YticblminpeodjaaPlain
set_option linter.unusedVariables false
set_option linter.unusedSimpArgs false

instance : DecidableEq S23 := fun a b => match a, b with
  | ⟨a0, a1⟩, ⟨b0, b1⟩ => decidable_of_iff (a0 = b0 ∧ a1 = b1) (by simp)

theorem spec_l1In_eq (x a b : Int) : spec_l1In.f x a b = some (decide (a ≤ x ∧ x ≤ b)) := by
  unfold spec_l1In.f
  split <;> (congr 1; simp_all) <;> omega

theorem impl_in_eq (x a b : Int) : impl_in.f x a b = some (decide (a ≤ x ∧ x ≤ b)) := by
  unfold impl_in.f
  split <;> (congr 1; simp_all) <;> omega

theorem spec_l1Char_eq (x : Int) : spec_l1Char.f x = some (isCh x) := by
  unfold spec_l1Char.f isCh
  simp only [spec_l1In_eq, Option.bind_some]
  by_cases h : 0 ≤ x ∧ x ≤ 55295
  · simp [h]
  · rw [if_neg (by simpa using h)]
    congr 1
    simp only [h, false_or]

theorem impl_isChar_eq (x : Int) : impl_isChar.f x = some (isCh x) := by
  unfold impl_isChar.f isCh
  simp only [impl_in_eq, Option.bind_some]
  by_cases h : 0 ≤ x ∧ x ≤ 65535
  · rw [if_pos (by simpa using h), ← decide_not]
    congr 1
    refine decide_eq_decide.2 ?_
    omega
  · rw [if_neg (by simpa using h)]
    congr 1
    symm
    rw [decide_eq_false_iff_not]
    omega

theorem impl_isBit_eq (x : Int) : impl_isBit.f x = some (decide (x = 1 ∨ x = 2 ∨ x = 4)) := by
  unfold impl_isBit.f
  by_cases h1 : x = 1 <;> by_cases h2 : x = 2 <;> simp [h1, h2] <;> rfl
/-- Has a sym the value of its kind? -/
def symV (a b : Int) : Bool := if a = 1 then isCh b else if a = 2 then decide (0 ≤ b ∧ b ≤ 3) else if a = 3 then decide (b = 1 ∨ b = 2 ∨ b = 4) else if a = 5 then decide (1 ≤ b ∧ b ≤ 3) else if a = 6 then decide (0 ≤ b ∧ b ≤ 2) else decide (b = 0)
/-- What is wrong with a sym. -/
def symF (a b : Int) : Int := if 0 ≤ a ∧ a ≤ 6 then (if symV a b = true then 0 else 3) else 1
theorem spec_l8Value_eq (a b : Int) : spec_l8Value.f a b = some (symV a b) := by
  unfold spec_l8Value.f symV
  simp only [spec_l1In_eq, spec_l1Char_eq, Option.bind_some]
  by_cases h1 : a = 1
  · simp [h1]
  by_cases h2 : a = 2
  · simp [h2]
  by_cases h3 : a = 3
  · subst h3
    by_cases g1 : b = 1 <;> by_cases g2 : b = 2 <;> simp [g1, g2] <;> rfl
  by_cases h4 : a = 5
  · simp [h4]
  by_cases h5 : a = 6
  · simp [h5]
  simp [h1, h2, h3, h4, h5]
  rfl
theorem spec_l8Sym_eq (a b : Int) : spec_l8Sym.f a b = some (symF a b) := by
  unfold spec_l8Sym.f symF
  simp only [spec_l1In_eq, spec_l8Value_eq, Option.bind_some]
  by_cases h : 0 ≤ a ∧ a ≤ 6
  · simp only [h, and_self, decide_true, if_true]
    split <;> simp_all
  · simp only [h, decide_false, Bool.false_eq_true, if_false]
theorem impl_SymFault_eq {k : Nat} (hk : 1 ≤ k) (a b : Int) : impl_SymFault.f k a b = some (symF a b) := by
  obtain ⟨k, rfl⟩ : ∃ m, k = m + 1 := ⟨k - 1, by omega⟩
  unfold impl_SymFault.f symF
  simp only [impl_SymFault.j0, impl_in_eq, impl_isChar_eq, impl_isBit_eq, impl_unless.f, Option.bind_some]
  by_cases h0 : a = 0
  · subst h0
    by_cases g : b = 0 <;> simp [symV, g]
  by_cases h1 : a = 1
  · subst h1
    cases g : isCh b <;> simp [symV, g]
  by_cases h2 : a = 2
  · subst h2
    by_cases g : 0 ≤ b ∧ b ≤ 3 <;> simp [symV, g]
  by_cases h3 : a = 3
  · subst h3
    by_cases g : b = 1 ∨ b = 2 ∨ b = 4 <;> simp [symV, g]
  by_cases h4 : a = 4
  · subst h4
    by_cases g : b = 0 <;> simp [symV, g]
  by_cases h5 : a = 5
  · subst h5
    by_cases g : 1 ≤ b ∧ b ≤ 3 <;> simp [symV, g]
  by_cases h6 : a = 6
  · subst h6
    by_cases g : 0 ≤ b ∧ b ≤ 2 <;> simp [symV, g]
  have h : ¬ (0 ≤ a ∧ a ≤ 6) := by omega
  simp [h0, h1, h2, h3, h4, h5, h6, h]

theorem FnExactSymFault : ∀ (x0 : S23), (((Lit.int .i64 x0.f0).wf = true) ∧ ((Lit.int .i64 x0.f1).wf = true)) → ∃ k, laws_FnExactSymFault.f k x0.f0 x0.f1 = some true := by
  intro x hx
  refine ⟨1, ?_⟩
  unfold laws_FnExactSymFault.f laws_toSym.f spec_SymFault.f
  simp only [Option.bind_some]
  rw [spec_l8Sym_eq, impl_SymFault_eq (by omega)]
  simp

end Go.Proofs.Yticblminpeodjaa.Pure
