/- WayFault: for every way the program's answer is the reference's. No condition. -/
import Derived.Test.YtbfdpikijgeigaaPFnExactWayFaultx
import Derived.Test.YtbfdpikijgeigaaPlain
namespace Go.Proofs.Ytbfdpikijgeigaa.Pure
open Go Go.RowKit Go.Proofs.Ytbfdpikijgeigaa.PFnExactWayFault Go.Proofs.YtbfdpikijgeigaaW.PrintWords Go.Proofs.YtbfdpikijgeigaaW.PrintLast Go.Proofs.YtbfdpikijgeigaaPlain
set_option linter.unusedVariables false
set_option linter.unusedSimpArgs false

instance : DecidableEq S24 := fun a b => match a, b with
  | ⟨a0, a1, a2, a3, a4, a5, a6⟩, ⟨b0, b1, b2, b3, b4, b5, b6⟩ => decidable_of_iff (a0 = b0 ∧ a1 = b1 ∧ a2 = b2 ∧ a3 = b3 ∧ a4 = b4 ∧ a5 = b5 ∧ a6 = b6) (by simp)

theorem spec_l1In_eq (x a b : Int) : spec_l1In.f x a b = some (decide (a ≤ x ∧ x ≤ b)) := by
  unfold spec_l1In.f
  split <;> (congr 1; simp_all) <;> omega

theorem impl_in_eq (x a b : Int) : impl_in.f x a b = some (decide (a ≤ x ∧ x ≤ b)) := by
  unfold impl_in.f
  split <;> (congr 1; simp_all) <;> omega

theorem way_loop (xs : List Int) (hb : xs.length ≤ 1000) (d : Nat) : ∀ (k i : Nat), xs.length - i = d → i ≤ xs.length → d < k →
    ∃ r : Int, spec_l10Fault.l0 k xs (i : Int) = some r ∧ impl_WayFault.l0 k xs (xs.length : Int) (i : Int) = some r := by
  induction d with
  | zero =>
    intro k i hd hi hk
    obtain ⟨k, rfl⟩ : ∃ m, k = m + 1 := ⟨k - 1, by omega⟩
    refine ⟨0, ?_, ?_⟩
    · simp only [spec_l10Fault.l0]; rw [if_neg (by omega)]
    · simp only [impl_WayFault.l0]; rw [if_neg (by omega)]
  | succ d ih =>
    intro k i hd hi hk
    obtain ⟨k, rfl⟩ : ∃ m, k = m + 1 := ⟨k - 1, by omega⟩
    obtain ⟨r, h1, h2⟩ := ih k (i + 1) (by omega) (by omega) (by omega)
    have hx : i < xs.length := by omega
    have g1 : (i : Int) < (xs.length : Int) := by omega
    have g2 : 0 ≤ (i : Int) := by omega
    simp only [spec_l10Fault.l0, impl_WayFault.l0, spec_l1In_eq, impl_in_eq, Option.bind_some, if_pos g1, if_pos g2]
    rw [rd_nat hx, w64n (by omega), h1, h2]
    by_cases h0 : (i : Int) = 0
    · rw [if_pos h0, if_pos h0]
      by_cases h3 : 0 ≤ xs[i] ∧ xs[i] ≤ 255
      · have h4 : 0 ≤ xs[i] ∧ xs[i] ≤ 511 := by omega
        exact ⟨r, by simp [h4], by simp [h3]⟩
      · by_cases h4 : 0 ≤ xs[i] ∧ xs[i] ≤ 511
        · exact ⟨r, by simp [h4], by simp [h3, h4]⟩
        · exact ⟨3, by simp [h4], by simp [h3, h4]⟩
    · rw [if_neg h0, if_neg h0]
      by_cases h3 : 0 ≤ xs[i] ∧ xs[i] ≤ 255
      · exact ⟨r, by simp [h3], by simp [h3]⟩
      · exact ⟨3, by simp [h3], by simp [h3]⟩
theorem way_fault (a b c d e f g : Int) : ∃ r : Int, ∀ k, 10 ≤ k → spec_l10Fault.f k a b c d e f g = some r ∧ impl_WayFault.f k a b c d e f g = some r := by
  obtain ⟨r, h1, h2⟩ := way_loop [a, b, c, d, e, f, g] (by simp) 7 10 0 rfl (Nat.zero_le _) (by omega)
  refine ⟨r, fun k hk => ⟨?_, ?_⟩⟩
  · exact at_rounds (g := fun k => spec_l10Fault.f k a b c d e f g) (spec_l10Fault.mono a b c d e f g) hk h1
  · exact at_rounds (g := fun k => impl_WayFault.f k a b c d e f g) (impl_WayFault.mono a b c d e f g) hk h2

theorem FnExactWayFault : ∀ (x0 : S24), (((Lit.int .i64 x0.f0).wf = true) ∧ ((Lit.int .i64 x0.f1).wf = true) ∧ ((Lit.int .i64 x0.f2).wf = true) ∧ ((Lit.int .i64 x0.f3).wf = true) ∧ ((Lit.int .i64 x0.f4).wf = true) ∧ ((Lit.int .i64 x0.f5).wf = true) ∧ ((Lit.int .i64 x0.f6).wf = true)) → ∃ k, laws_FnExactWayFault.f k x0.f0 x0.f1 x0.f2 x0.f3 x0.f4 x0.f5 x0.f6 = some true := by
  intro x hx
  obtain ⟨r, hr⟩ := way_fault x.f0 x.f1 x.f2 x.f3 x.f4 x.f5 x.f6
  obtain ⟨h1, h2⟩ := hr 10 (by omega)
  refine ⟨10, ?_⟩
  unfold laws_FnExactWayFault.f laws_toWay.f spec_WayFault.f
  simp only [Option.bind_some]
  rw [h1, h2]
  simp

end Go.Proofs.Ytbfdpikijgeigaa.Pure
