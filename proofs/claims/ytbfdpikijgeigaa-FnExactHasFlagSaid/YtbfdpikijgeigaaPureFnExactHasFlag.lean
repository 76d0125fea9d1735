/- HasFlag: for every way and every number the program's answer is the reference's. No condition. -/
import Derived.Test.YtbfdpikijgeigaaPFnExactHasFlagx
import Derived.Test.YtbfdpikijgeigaaPlain
namespace Go.Proofs.Ytbfdpikijgeigaa.Pure
open Go Go.RowKit Go.Proofs.Ytbfdpikijgeigaa.PFnExactHasFlag Go.Proofs.YtbfdpikijgeigaaW.PrintWords Go.Proofs.YtbfdpikijgeigaaW.PrintLast Go.Proofs.YtbfdpikijgeigaaPlain
set_option linter.unusedVariables false
set_option linter.unusedSimpArgs false

instance : DecidableEq S24 := fun a b => match a, b with
  | ⟨a0, a1, a2, a3, a4, a5, a6⟩, ⟨b0, b1, b2, b3, b4, b5, b6⟩ => decidable_of_iff (a0 = b0 ∧ a1 = b1 ∧ a2 = b2 ∧ a3 = b3 ∧ a4 = b4 ∧ a5 = b5 ∧ a6 = b6) (by simp)

theorem spec_l1In_eq (x a b : Int) : spec_l1In.f x a b = some (decide (a ≤ x ∧ x ≤ b)) := by
  unfold spec_l1In.f
  split <;> (congr 1; simp_all) <;> omega

theorem impl_in_eq (x a b : Int) : impl_in.f x a b = some (decide (a ≤ x ∧ x ≤ b)) := by
  unfold impl_in.f
  split <;> (congr 1; simp_all) <;> omega

theorem way_loop (xs : List Int) (hb : xs.length ≤ 1000) (d : Nat) : ∀ (k i : Nat), xs.length - i = d → i ≤ xs.length → d < k →
    ∃ r : Int, spec_l10Fault.l0 k xs (i : Int) = some r ∧ impl_WayFault.l0 k xs (xs.length : Int) (i : Int) = some r := by
  induction d with
  | zero =>
    intro k i hd hi hk
    obtain ⟨k, rfl⟩ : ∃ m, k = m + 1 := ⟨k - 1, by omega⟩
    refine ⟨0, ?_, ?_⟩
    · simp only [spec_l10Fault.l0]; rw [if_neg (by omega)]
    · simp only [impl_WayFault.l0]; rw [if_neg (by omega)]
  | succ d ih =>
    intro k i hd hi hk
    obtain ⟨k, rfl⟩ : ∃ m, k = m + 1 := ⟨k - 1, by omega⟩
    obtain ⟨r, h1, h2⟩ := ih k (i + 1) (by omega) (by omega) (by omega)
    have hx : i < xs.length := by omega
    have g1 : (i : Int) < (xs.length : Int) := by omega
    have g2 : 0 ≤ (i : Int) := by omega
    simp only [spec_l10Fault.l0, impl_WayFault.l0, spec_l1In_eq, impl_in_eq, Option.bind_some, if_pos g1, if_pos g2]
    rw [rd_nat hx, w64n (by omega), h1, h2]
    by_cases h0 : (i : Int) = 0
    · rw [if_pos h0, if_pos h0]
      by_cases h3 : 0 ≤ xs[i] ∧ xs[i] ≤ 255
      · have h4 : 0 ≤ xs[i] ∧ xs[i] ≤ 511 := by omega
        exact ⟨r, by simp [h4], by simp [h3]⟩
      · by_cases h4 : 0 ≤ xs[i] ∧ xs[i] ≤ 511
        · exact ⟨r, by simp [h4], by simp [h3, h4]⟩
        · exact ⟨3, by simp [h4], by simp [h3, h4]⟩
    · rw [if_neg h0, if_neg h0]
      by_cases h3 : 0 ≤ xs[i] ∧ xs[i] ≤ 255
      · exact ⟨r, by simp [h3], by simp [h3]⟩
      · exact ⟨3, by simp [h3], by simp [h3]⟩
theorem way_fault (a b c d e f g : Int) : ∃ r : Int, ∀ k, 10 ≤ k → spec_l10Fault.f k a b c d e f g = some r ∧ impl_WayFault.f k a b c d e f g = some r := by
  obtain ⟨r, h1, h2⟩ := way_loop [a, b, c, d, e, f, g] (by simp) 7 10 0 rfl (Nat.zero_le _) (by omega)
  refine ⟨r, fun k hk => ⟨?_, ?_⟩⟩
  · exact at_rounds (g := fun k => spec_l10Fault.f k a b c d e f g) (spec_l10Fault.mono a b c d e f g) hk h1
  · exact at_rounds (g := fun k => impl_WayFault.f k a b c d e f g) (impl_WayFault.mono a b c d e f g) hk h2

theorem one_bit : ∀ n : Fin 512, bits .and .i64 (n.val : Int) ((n.val : Int) - 1) = 0 → n.val ∈ [0, 1, 2, 4, 8, 16, 32, 64, 128, 256] := by decide +kernel
theorem FnExactHasFlag : ∀ (x0 : S24) (x1 : Int), (((Lit.int .i64 x0.f0).wf = true) ∧ ((Lit.int .i64 x0.f1).wf = true) ∧ ((Lit.int .i64 x0.f2).wf = true) ∧ ((Lit.int .i64 x0.f3).wf = true) ∧ ((Lit.int .i64 x0.f4).wf = true) ∧ ((Lit.int .i64 x0.f5).wf = true) ∧ ((Lit.int .i64 x0.f6).wf = true)) → ((Lit.int .i64 x1).wf = true) → ∃ k, laws_FnExactHasFlag.f k x0.f0 x0.f1 x0.f2 x0.f3 x0.f4 x0.f5 x0.f6 x1 = some true := by
  intro x n hx hn
  obtain ⟨r, hr⟩ := way_fault x.f0 x.f1 x.f2 x.f3 x.f4 x.f5 x.f6
  obtain ⟨v, h1, h2⟩ : ∃ v : Bool, spec_HasFlag.f 30 x.f0 x.f1 x.f2 x.f3 x.f4 x.f5 x.f6 n = some v ∧ impl_HasFlag.f 30 x.f0 x.f1 x.f2 x.f3 x.f4 x.f5 x.f6 n = some v := by
    unfold spec_HasFlag.f impl_HasFlag.f impl_Way_has.f
    rw [(hr 30 (by omega)).2]
    simp only [impl_in_eq, Option.bind_some]
    have step : ∀ (k : Nat) (b b2 : Int), 10 ≤ k → b ≤ 256 → wrap64 (2 * b) = b2 → spec_HasFlag.l0 (k + 1) n b x.f0 x.f1 x.f2 x.f3 x.f4 x.f5 x.f6 =
        if b = n then (if r = 0 then some (bits .and .i64 x.f0 n != 0) else some false) else spec_HasFlag.l0 k n b2 x.f0 x.f1 x.f2 x.f3 x.f4 x.f5 x.f6 := by
      intro k b b2 hk hb hw
      simp only [spec_HasFlag.l0]
      rw [if_pos hb, (hr k hk).1, hw]
      unfold spec_l10Has.f
      simp only [Option.bind_some]
    have last : spec_HasFlag.l0 21 n 512 x.f0 x.f1 x.f2 x.f3 x.f4 x.f5 x.f6 = some false := by
      simp only [spec_HasFlag.l0]
      rw [if_neg (by omega)]
    rw [step 29 1 2 (by omega) (by omega) (by unfold wrap64; omega), step 28 2 4 (by omega) (by omega) (by unfold wrap64; omega), step 27 4 8 (by omega) (by omega) (by unfold wrap64; omega), step 26 8 16 (by omega) (by omega) (by unfold wrap64; omega), step 25 16 32 (by omega) (by omega) (by unfold wrap64; omega), step 24 32 64 (by omega) (by omega) (by unfold wrap64; omega), step 23 64 128 (by omega) (by omega) (by unfold wrap64; omega), step 22 128 256 (by omega) (by omega) (by unfold wrap64; omega), step 21 256 512 (by omega) (by omega) (by unfold wrap64; omega), last]
    by_cases hb : n = 1 ∨ n = 2 ∨ n = 4 ∨ n = 8 ∨ n = 16 ∨ n = 32 ∨ n = 64 ∨ n = 128 ∨ n = 256
    · have h3 : bits .and .i64 n (wrap64 (n - 1)) = 0 := by
        rcases hb with rfl | rfl | rfl | rfl | rfl | rfl | rfl | rfl | rfl <;> (rw [w64 (by omega)]; decide +kernel)
      have h4 : 1 ≤ n ∧ n ≤ 511 := by omega
      have h5 : ∃ i : Nat, i < 62 ∧ n = 2 ^ i ∧ n ≠ 0 := by
        rcases hb with rfl | rfl | rfl | rfl | rfl | rfl | rfl | rfl | rfl
        · exact ⟨0, by omega, by decide, by decide⟩
        · exact ⟨1, by omega, by decide, by decide⟩
        · exact ⟨2, by omega, by decide, by decide⟩
        · exact ⟨3, by omega, by decide, by decide⟩
        · exact ⟨4, by omega, by decide, by decide⟩
        · exact ⟨5, by omega, by decide, by decide⟩
        · exact ⟨6, by omega, by decide, by decide⟩
        · exact ⟨7, by omega, by decide, by decide⟩
        · exact ⟨8, by omega, by decide, by decide⟩
      obtain ⟨i, hi, hni, hn0⟩ := h5
      have h6 : (bits .and .i64 x.f0 n != 0) = (bits .and .i64 x.f0 n == n) := by
        have := and_bit x.f0 i hi
        rw [← hni] at this
        rcases this with g | g
        · rw [g]
          simp
          exact fun h => hn0 h.symm
        · rw [g]
          simp
          exact hn0
      simp only [h4, and_self, decide_true, if_true, h3, h6]
      refine ⟨if r = 0 then (bits .and .i64 x.f0 n == n) else false, ?_, by split <;> rfl⟩
      have h7 : (if r = 0 then some (bits .and .i64 x.f0 n == n) else some false) = some (if r = 0 then (bits .and .i64 x.f0 n == n) else false) := by split <;> rfl
      rw [h7]
      split
      · rfl
      · split
        · rfl
        · split
          · rfl
          · split
            · rfl
            · split
              · rfl
              · split
                · rfl
                · split
                  · rfl
                  · split
                    · rfl
                    · split
                      · rfl
                      · omega
    · refine ⟨false, ?_, ?_⟩
      · rw [if_neg (by omega), if_neg (by omega), if_neg (by omega), if_neg (by omega), if_neg (by omega), if_neg (by omega), if_neg (by omega), if_neg (by omega), if_neg (by omega)]
      · split
        · split
          · split
            · rename_i g1 g2 g3
              exfalso
              simp only [decide_eq_true_eq] at g2
              obtain ⟨m, rfl⟩ := Int.eq_ofNat_of_zero_le (show 0 ≤ n by omega)
              rw [w64 (by omega)] at g3
              have := one_bit ⟨m, by omega⟩ g3
              simp at this
              omega
            · rfl
          · rfl
        · rfl
  refine ⟨30, ?_⟩
  unfold laws_FnExactHasFlag.f laws_toWay.f
  simp only [Option.bind_some]
  rw [h1, h2]
  simp

end Go.Proofs.Ytbfdpikijgeigaa.Pure
