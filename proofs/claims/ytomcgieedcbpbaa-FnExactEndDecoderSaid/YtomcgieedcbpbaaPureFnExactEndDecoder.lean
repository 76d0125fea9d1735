/- EndDecoder: for every decoder the program's answer is the reference's, in memory of its own. No condition. -/
import Derived.Test.YtomcgieedcbpbaaPFnExactEndDecoderx
import Derived.Test.YtomcgieedcbpbaaPlain
namespace Go.Proofs.Ytomcgieedcbpbaa.Pure
open Go Go.RowKit Go.Proofs.Ytomcgieedcbpbaa.PFnExactEndDecoder Go.Proofs.YtomcgieedcbpbaaW.PrintWords Go.Proofs.YtomcgieedcbpbaaW.PrintLast Go.Proofs.YtomcgieedcbpbaaPlain
set_option linter.unusedVariables false
set_option linter.unusedSimpArgs false

instance : DecidableEq S23 := fun a b => match a, b with
  | ⟨a0, a1, a2⟩, ⟨b0, b1, b2⟩ => decidable_of_iff (a0 = b0 ∧ a1 = b1 ∧ a2 = b2) (by simp)

theorem spec_l1In_eq (x a b : Int) : spec_l1In.f x a b = some (decide (a ≤ x ∧ x ≤ b)) := by
  unfold spec_l1In.f
  split <;> (congr 1; simp_all) <;> omega

theorem impl_in_eq (x a b : Int) : impl_in.f x a b = some (decide (a ≤ x ∧ x ≤ b)) := by
  unfold impl_in.f
  split <;> (congr 1; simp_all) <;> omega

theorem laws_eqInt64S_eq {k : Nat} {xs ys : List Int} (hb : xs.length ≤ 4611686018427387904) (hk : xs.length < k) : laws_eqInt64S.f k xs ys = some (decide (xs = ys)) :=
  eq_fun (fun hl => eq_loop laws_eqInt64S.l0 rd (fun a b c => if a = b then c else some false) (fun xs i h => rd_nat h) (fun k xs ys i => by simp only [laws_eqInt64S.l0]) (fun a b c => rfl) hl hb _ k 0 rfl (Nat.zero_le _) (by omega))

theorem laws_markInt64S_eq {k : Nat} {x : Int} {xs : List Int} (hb : xs.length ≤ 1000000000000000000) (hk : xs.length < k) (h0 : 0 ≤ x) (h1 : x ≤ 1000000000000000000) : laws_markInt64S.f k xs x = some (x + 1 * (xs.length : Int), marks (fun x => x) 1 xs.length x) := by
  have h := mark_loop laws_markInt64S.l0 (fun x => x) 1 (by omega) (fun k xs x i => by simp only [laws_markInt64S.l0]) xs.length k 0 x xs (by omega) rfl (Nat.zero_le _) hk h0 (by omega)
  rw [List.take_zero, List.nil_append] at h
  exact h

theorem laws_heldInt64S_eq {k m : Nat} {x : Int} (hb : m ≤ 1000000000000000000) (hk : m < k) (h0 : 0 ≤ x) (h1 : x ≤ 1000000000000000000) : laws_heldInt64S.f k (marks (fun x => x) 1 m x) x = some (x + 1 * (m : Int)) := by
  have h := held_loop laws_heldInt64S.l0 rd (fun a x o => if a = x then o else some (-1)) (fun x => x) 1 (by omega) (fun xs i h => rd_nat h) (fun k xs x i => by simp only [laws_heldInt64S.l0]) (fun x o h0 h1 => by simp) m k 0 x [] rfl (by omega) hk h0 (by omega)
  rw [List.nil_append] at h
  exact h

/-- What is wrong with a decoder. -/
def decF (a b x : Int) : Int := if (a = 0 ∧ b = 0 ∧ x = 0) ∨ (a = 1 ∧ b = 128 ∧ 2 ≤ x ∧ x ≤ 31) ∨ (a = 2 ∧ b = 2048 ∧ 0 ≤ x ∧ x ≤ 15) ∨ (a = 1 ∧ b = 2048 ∧ 0 ≤ x ∧ x ≤ 1023) then 0 else 3
theorem spec_l1Fault_eq {k : Nat} (hk : 3 ≤ k) (a b x : Int) : spec_l1Fault.f k a b x = some (decF a b x) := by
  obtain ⟨k, rfl⟩ : ∃ m, k = m + 3 := ⟨k - 3, by omega⟩
  unfold spec_l1Fault.f decF
  simp only [spec_l1In_eq, Option.bind_some, spec_l1Fault.j0, spec_l1Fault.j1]
  by_cases h0 : a = 0
  · subst h0
    by_cases h1 : b = 0 <;> by_cases h2 : x = 0 <;> simp [h1, h2]
  · by_cases h1 : a = 1
    · subst h1
      by_cases h2 : b = 128
      · subst h2
        by_cases h3 : 2 ≤ x ∧ x ≤ 31 <;> simp [h3]
      · by_cases h3 : b = 2048
        · subst h3
          by_cases h4 : 0 ≤ x ∧ x ≤ 1023 <;> simp [h4]
        · simp [h2, h3]
    · by_cases h2 : a = 2
      · subst h2
        by_cases h3 : b = 2048
        · subst h3
          by_cases h4 : 0 ≤ x ∧ x ≤ 15 <;> simp [h4]
        · simp [h3]
      · simp [h0, h1, h2]
theorem impl_DecoderFault_eq {k : Nat} (hk : 3 ≤ k) (a b x : Int) : impl_DecoderFault.f k a b x = some (decF a b x) := by
  obtain ⟨k, rfl⟩ : ∃ m, k = m + 3 := ⟨k - 3, by omega⟩
  unfold impl_DecoderFault.f decF
  simp only [impl_in_eq, Option.bind_some, impl_DecoderFault.j0, impl_DecoderFault.j1]
  by_cases h0 : a = 0
  · subst h0
    by_cases h1 : b = 0 <;> by_cases h2 : x = 0 <;> simp [h1, h2]
  · by_cases h1 : a = 1
    · subst h1
      by_cases h2 : b = 128
      · subst h2
        by_cases h3 : 2 ≤ x ∧ x ≤ 31 <;> simp [h3]
      · by_cases h3 : b = 2048
        · subst h3
          by_cases h4 : 0 ≤ x ∧ x ≤ 1023 <;> simp [h4]
        · simp [h2, h3]
    · by_cases h2 : a = 2
      · subst h2
        by_cases h3 : b = 2048
        · subst h3
          by_cases h4 : 0 ≤ x ∧ x ≤ 15 <;> simp [h4]
        · simp [h3]
      · simp [h0, h1, h2]

theorem laws_eqIntsResult_eq {k : Nat} {a b : Int} {xs ys : List Int} (hb : xs.length ≤ 4611686018427387904) (hk : xs.length < k) : laws_eqIntsResult.f k a xs b ys = some (decide (a = b ∧ xs = ys)) := by
  unfold laws_eqIntsResult.f
  rw [laws_eqInt64S_eq hb hk]
  simp only [Option.bind_some]
  by_cases h1 : a = b <;> by_cases h2 : xs = ys <;> simp [h1, h2]

theorem laws_markIntsResult_eq {k : Nat} {a x : Int} {xs : List Int} (hb : xs.length ≤ 1000000000000000000) (hk : xs.length < k) (h0 : 0 ≤ x) (h1 : x ≤ 1000000000000000000) : laws_markIntsResult.f k a xs x = some (x + 1 * (xs.length : Int), marks (fun x => x) 1 xs.length x) := by
  unfold laws_markIntsResult.f
  rw [laws_markInt64S_eq hb hk h0 h1]
  rfl
theorem laws_heldIntsResult_eq {k m : Nat} {a x : Int} (hb : m ≤ 1000000000000000000) (hk : m < k) (h0 : 0 ≤ x) (h1 : x ≤ 1000000000000000000) : laws_heldIntsResult.f k a (marks (fun x => x) 1 m x) x = some (x + 1 * (m : Int)) := by
  unfold laws_heldIntsResult.f
  rw [laws_heldInt64S_eq hb hk h0 h1]
  simp only [Option.bind_some]
  rw [if_neg (by omega)]

theorem FnExactEndDecoder : ∀ (x0 : S23), (((Lit.int .i64 x0.f0).wf = true) ∧ ((Lit.int .i64 x0.f1).wf = true) ∧ ((Lit.int .i64 x0.f2).wf = true)) → ∃ k, laws_FnExactEndDecoder.f k x0.f0 x0.f1 x0.f2 = some true := by
  intro x hx
  refine ⟨10, ?_⟩
  obtain ⟨r, h1, h2, hl⟩ : ∃ r : Int × List Int, spec_EndDecoder.f 10 x.f0 x.f1 x.f2 = some r ∧ impl_EndDecoder.f 10 x.f0 x.f1 x.f2 = some r ∧ r.2.length ≤ 1 := by
    unfold spec_EndDecoder.f impl_EndDecoder.f
    rw [spec_l1Fault_eq (by omega), impl_DecoderFault_eq (by omega)]
    simp only [Option.bind_some]
    split
    · split
      · exact ⟨_, rfl, rfl, by simp⟩
      · exact ⟨_, rfl, rfl, by simp⟩
    · exact ⟨_, rfl, rfl, by simp⟩
  unfold laws_FnExactEndDecoder.f laws_toDecoder.f
  simp only [Option.bind_some]
  rw [h1, h2]
  simp only [Option.bind_some]
  rw [laws_eqIntsResult_eq (by omega) (by omega), laws_markIntsResult_eq (by omega) (by omega) (by omega) (by omega)]
  simp only [and_self, decide_true, if_true, Option.bind_some]
  rw [laws_heldIntsResult_eq (by omega) (by omega) (by omega) (by omega)]
  simp only [Option.bind_some]
  rw [if_neg (by omega)]
  simp
  omega

end Go.Proofs.Ytomcgieedcbpbaa.Pure
