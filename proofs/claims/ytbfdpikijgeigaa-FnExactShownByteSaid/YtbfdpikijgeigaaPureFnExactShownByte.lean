/- ShownByte: for every way and every byte the program's answer is the reference's, in memory of its own. No condition. -/
import Derived.Test.YtbfdpikijgeigaaPFnExactShownBytex
import Derived.Test.YtbfdpikijgeigaaPlain
namespace Go.Proofs.Ytbfdpikijgeigaa.Pure
open Go Go.RowKit Go.Proofs.Ytbfdpikijgeigaa.PFnExactShownByte Go.Proofs.YtbfdpikijgeigaaW.PrintWords Go.Proofs.YtbfdpikijgeigaaW.PrintLast Go.Proofs.YtbfdpikijgeigaaPlain
set_option linter.unusedVariables false
set_option linter.unusedSimpArgs false

instance : DecidableEq S24 := fun a b => match a, b with
  | ⟨a0, a1, a2, a3, a4, a5, a6⟩, ⟨b0, b1, b2, b3, b4, b5, b6⟩ => decidable_of_iff (a0 = b0 ∧ a1 = b1 ∧ a2 = b2 ∧ a3 = b3 ∧ a4 = b4 ∧ a5 = b5 ∧ a6 = b6) (by simp)

theorem spec_l1In_eq (x a b : Int) : spec_l1In.f x a b = some (decide (a ≤ x ∧ x ≤ b)) := by
  unfold spec_l1In.f
  split <;> (congr 1; simp_all) <;> omega

theorem impl_in_eq (x a b : Int) : impl_in.f x a b = some (decide (a ≤ x ∧ x ≤ b)) := by
  unfold impl_in.f
  split <;> (congr 1; simp_all) <;> omega

theorem laws_eqByteS_eq {k : Nat} {xs ys : List Int} (hb : xs.length ≤ 4611686018427387904) (hk : xs.length < k) : laws_eqByteS.f k xs ys = some (decide (xs = ys)) :=
  eq_fun (fun hl => eq_loop laws_eqByteS.l0 rd (fun a b c => if a = b then c else some false) (fun xs i h => rd_nat h) (fun k xs ys i => by simp only [laws_eqByteS.l0]) (fun a b c => rfl) hl hb _ k 0 rfl (Nat.zero_le _) (by omega))

theorem laws_markByteS_eq {k : Nat} {x : Int} {xs : List Int} (hb : xs.length ≤ 1000000000000000000) (hk : xs.length < k) (h0 : 0 ≤ x) (h1 : x ≤ 1000000000000000000) : laws_markByteS.f k xs x = some (x + 1 * (xs.length : Int), marks (fun x => x % 256) 1 xs.length x) := by
  have h := mark_loop laws_markByteS.l0 (fun x => x % 256) 1 (by omega) (fun k xs x i => by simp only [laws_markByteS.l0]) xs.length k 0 x xs (by omega) rfl (Nat.zero_le _) hk h0 (by omega)
  rw [List.take_zero, List.nil_append] at h
  exact h

theorem laws_heldByteS_eq {k m : Nat} {x : Int} (hb : m ≤ 1000000000000000000) (hk : m < k) (h0 : 0 ≤ x) (h1 : x ≤ 1000000000000000000) : laws_heldByteS.f k (marks (fun x => x % 256) 1 m x) x = some (x + 1 * (m : Int)) := by
  have h := held_loop laws_heldByteS.l0 rd (fun a x o => if a = x % 256 then o else some (-1)) (fun x => x % 256) 1 (by omega) (fun xs i h => rd_nat h) (fun k xs x i => by simp only [laws_heldByteS.l0]) (fun x o h0 h1 => by simp) m k 0 x [] rfl (by omega) hk h0 (by omega)
  rw [List.nil_append] at h
  exact h

theorem laws_eqBytesResult_eq {k : Nat} {a b : Int} {xs ys : List Int} (hb : xs.length ≤ 4611686018427387904) (hk : xs.length < k) : laws_eqBytesResult.f k a xs b ys = some (decide (a = b ∧ xs = ys)) := by
  unfold laws_eqBytesResult.f
  rw [laws_eqByteS_eq hb hk]
  simp only [Option.bind_some]
  by_cases h1 : a = b <;> by_cases h2 : xs = ys <;> simp [h1, h2]

theorem laws_markBytesResult_eq {k : Nat} {a x : Int} {xs : List Int} (hb : xs.length ≤ 1000000000000000000) (hk : xs.length < k) (h0 : 0 ≤ x) (h1 : x ≤ 1000000000000000000) : laws_markBytesResult.f k a xs x = some (x + 1 * (xs.length : Int), marks (fun x => x % 256) 1 xs.length x) := by
  unfold laws_markBytesResult.f
  rw [laws_markByteS_eq hb hk h0 h1]
  rfl
theorem laws_heldBytesResult_eq {k m : Nat} {a x : Int} (hb : m ≤ 1000000000000000000) (hk : m < k) (h0 : 0 ≤ x) (h1 : x ≤ 1000000000000000000) : laws_heldBytesResult.f k a (marks (fun x => x % 256) 1 m x) x = some (x + 1 * (m : Int)) := by
  unfold laws_heldBytesResult.f
  rw [laws_heldByteS_eq hb hk h0 h1]
  simp only [Option.bind_some]
  rw [if_neg (by omega)]

theorem way_loop (xs : List Int) (hb : xs.length ≤ 1000) (d : Nat) : ∀ (k i : Nat), xs.length - i = d → i ≤ xs.length → d < k →
    ∃ r : Int, spec_l10Fault.l0 k xs (i : Int) = some r ∧ impl_WayFault.l0 k xs (xs.length : Int) (i : Int) = some r := by
  induction d with
  | zero =>
    intro k i hd hi hk
    obtain ⟨k, rfl⟩ : ∃ m, k = m + 1 := ⟨k - 1, by omega⟩
    refine ⟨0, ?_, ?_⟩
    · simp only [spec_l10Fault.l0]; rw [if_neg (by omega)]
    · simp only [impl_WayFault.l0]; rw [if_neg (by omega)]
  | succ d ih =>
    intro k i hd hi hk
    obtain ⟨k, rfl⟩ : ∃ m, k = m + 1 := ⟨k - 1, by omega⟩
    obtain ⟨r, h1, h2⟩ := ih k (i + 1) (by omega) (by omega) (by omega)
    have hx : i < xs.length := by omega
    have g1 : (i : Int) < (xs.length : Int) := by omega
    have g2 : 0 ≤ (i : Int) := by omega
    simp only [spec_l10Fault.l0, impl_WayFault.l0, spec_l1In_eq, impl_in_eq, Option.bind_some, if_pos g1, if_pos g2]
    rw [rd_nat hx, w64n (by omega), h1, h2]
    by_cases h0 : (i : Int) = 0
    · rw [if_pos h0, if_pos h0]
      by_cases h3 : 0 ≤ xs[i] ∧ xs[i] ≤ 255
      · have h4 : 0 ≤ xs[i] ∧ xs[i] ≤ 511 := by omega
        exact ⟨r, by simp [h4], by simp [h3]⟩
      · by_cases h4 : 0 ≤ xs[i] ∧ xs[i] ≤ 511
        · exact ⟨r, by simp [h4], by simp [h3, h4]⟩
        · exact ⟨3, by simp [h4], by simp [h3, h4]⟩
    · rw [if_neg h0, if_neg h0]
      by_cases h3 : 0 ≤ xs[i] ∧ xs[i] ≤ 255
      · exact ⟨r, by simp [h3], by simp [h3]⟩
      · exact ⟨3, by simp [h3], by simp [h3]⟩
theorem way_fault (a b c d e f g : Int) : ∃ r : Int, ∀ k, 10 ≤ k → spec_l10Fault.f k a b c d e f g = some r ∧ impl_WayFault.f k a b c d e f g = some r := by
  obtain ⟨r, h1, h2⟩ := way_loop [a, b, c, d, e, f, g] (by simp) 7 10 0 rfl (Nat.zero_le _) (by omega)
  refine ⟨r, fun k hk => ⟨?_, ?_⟩⟩
  · exact at_rounds (g := fun k => spec_l10Fault.f k a b c d e f g) (spec_l10Fault.mono a b c d e f g) hk h1
  · exact at_rounds (g := fun k => impl_WayFault.f k a b c d e f g) (impl_WayFault.mono a b c d e f g) hk h2

theorem FnExactShownByte : ∀ (x0 : S24) (x1 : Int), (((Lit.int .i64 x0.f0).wf = true) ∧ ((Lit.int .i64 x0.f1).wf = true) ∧ ((Lit.int .i64 x0.f2).wf = true) ∧ ((Lit.int .i64 x0.f3).wf = true) ∧ ((Lit.int .i64 x0.f4).wf = true) ∧ ((Lit.int .i64 x0.f5).wf = true) ∧ ((Lit.int .i64 x0.f6).wf = true)) → ((Lit.int .u8 x1).wf = true) → ∃ k, laws_FnExactShownByte.f k x0.f0 x0.f1 x0.f2 x0.f3 x0.f4 x0.f5 x0.f6 x1 = some true := by
  intro x b hx hb
  obtain ⟨r, hr⟩ := way_fault x.f0 x.f1 x.f2 x.f3 x.f4 x.f5 x.f6
  obtain ⟨h1, h2⟩ := hr 10 (by omega)
  obtain ⟨s, h3, h4, hl⟩ : ∃ s : List Int, spec_l10Shown.f x.f0 x.f1 x.f2 x.f3 x.f4 x.f5 x.f6 b = some s ∧ impl_Way_shown.f x.f0 x.f1 x.f2 x.f3 x.f4 x.f5 x.f6 b = some s ∧ s.length ≤ 2 := by
    unfold spec_l10Shown.f impl_Way_shown.f spec_l10Has.f impl_Way_has.f spec_l10Hidden.f
    simp only [Option.bind_some]
    have hbit := and_bit x.f0 4 (by omega)
    rw [show ((2 : Int) ^ 4) = 16 from by decide] at hbit
    rcases hbit with e | e
    · rw [e]
      exact ⟨[b], by simp, by simp, by simp⟩
    · rw [e]
      by_cases g1 : b < 32
      · by_cases g2 : b = 9
        · subst g2
          exact ⟨[9], by simp, by simp, by simp⟩
        · by_cases g3 : b = 10
          · subst g3
            exact ⟨[10], by simp, by simp, by simp⟩
          · exact ⟨[94, Go.bits .xor .u8 b 64], by simp [g1, g2, g3], by simp [g1, g2, g3], by simp⟩
      · by_cases g2 : b = 127
        · exact ⟨[94, Go.bits .xor .u8 b 64], by simp [g2], by simp [g2], by simp⟩
        · exact ⟨[b], by simp [g1, g2], by simp [g1, g2], by simp⟩
  obtain ⟨q, h5, h6, hq⟩ : ∃ q : Int × List Int, spec_ShownByte.f 10 x.f0 x.f1 x.f2 x.f3 x.f4 x.f5 x.f6 b = some q ∧ impl_ShownByte.f 10 x.f0 x.f1 x.f2 x.f3 x.f4 x.f5 x.f6 b = some q ∧ q.2.length ≤ 2 := by
    unfold spec_ShownByte.f impl_ShownByte.f
    rw [h1, h2, h3, h4]
    simp only [Option.bind_some]
    split
    · exact ⟨_, rfl, rfl, hl⟩
    · exact ⟨_, rfl, rfl, by simp⟩
  refine ⟨10, ?_⟩
  unfold laws_FnExactShownByte.f laws_toWay.f
  simp only [Option.bind_some]
  rw [h5, h6]
  simp only [Option.bind_some]
  rw [laws_eqBytesResult_eq (by omega) (by omega), laws_markBytesResult_eq (by omega) (by omega) (by omega) (by omega)]
  simp only [and_self, decide_true, if_true, Option.bind_some]
  rw [laws_heldBytesResult_eq (by omega) (by omega) (by omega) (by omega)]
  simp only [Option.bind_some]
  rw [if_neg (by omega)]
  simp
  omega

end Go.Proofs.Ytbfdpikijgeigaa.Pure
