/- EncodeAll: for every list of numbers the program's answer is the reference's, the list stays as it was, and the answer lies in memory of its own. No condition. -/
import Derived.Test.YtomcgieedcbpbaaPFnExactEncodeAllx
import Derived.Test.YtomcgieedcbpbaaPlain
namespace Go.Proofs.Ytomcgieedcbpbaa.Pure
open Go Go.RowKit Go.Proofs.Ytomcgieedcbpbaa.PFnExactEncodeAll Go.Proofs.YtomcgieedcbpbaaW.PrintWords Go.Proofs.YtomcgieedcbpbaaW.PrintLast Go.Proofs.YtomcgieedcbpbaaPlain

theorem spec_l1In_eq (x a b : Int) : spec_l1In.f x a b = some (decide (a ≤ x ∧ x ≤ b)) := by
  unfold spec_l1In.f
  split <;> (congr 1; simp_all) <;> omega

theorem impl_in_eq (x a b : Int) : impl_in.f x a b = some (decide (a ≤ x ∧ x ≤ b)) := by
  unfold impl_in.f
  split <;> (congr 1; simp_all) <;> omega

theorem spec_l1Char_eq (x : Int) : spec_l1Char.f x = some (isCh x) := by
  unfold spec_l1Char.f isCh
  simp only [spec_l1In_eq, Option.bind_some]
  by_cases h : 0 ≤ x ∧ x ≤ 55295
  · simp [h]
  · rw [if_neg (by simpa using h)]
    congr 1
    simp only [h, false_or]

theorem impl_isChar_eq (x : Int) : impl_isChar.f x = some (isCh x) := by
  unfold impl_isChar.f isCh
  simp only [impl_in_eq, Option.bind_some]
  by_cases h : 0 ≤ x ∧ x ≤ 65535
  · rw [if_pos (by simpa using h), ← decide_not]
    congr 1
    refine decide_eq_decide.2 ?_
    omega
  · rw [if_neg (by simpa using h)]
    congr 1
    symm
    rw [decide_eq_false_iff_not]
    omega

theorem encode_eq {x : Int} (h : isCh x = true) : impl_encode.f x = spec_l1Encode.f x := by
  rw [isCh_iff] at h
  unfold impl_encode.f spec_l1Encode.f
  have h0 : 0 ≤ x := by omega
  have h1 : Int.tdiv x 64 = x / 64 := Int.tdiv_eq_ediv_of_nonneg h0
  have h2 : Int.tdiv x 4096 = x / 4096 := Int.tdiv_eq_ediv_of_nonneg h0
  have h3 : Int.tmod x 64 = x % 64 := Int.tmod_eq_emod_of_nonneg h0
  have h4 : wrap64 (x / 64) = x / 64 := w64 (by omega)
  have h5 : wrap64 (x / 4096) = x / 4096 := w64 (by omega)
  have h6 : Int.tmod (x / 64) 64 = x / 64 % 64 := Int.tmod_eq_emod_of_nonneg (by omega)
  simp only [h1, h2, h3, h4, h5, h6, i64_and63]
theorem encode_some (x : Int) : ∃ l, spec_l1Encode.f x = some l ∧ l.length ≤ 3 := by
  unfold spec_l1Encode.f
  split
  · exact ⟨_, rfl, by simp⟩
  · split
    · exact ⟨_, rfl, by simp⟩
    · exact ⟨_, rfl, by simp⟩

theorem laws_eqByteS_eq {k : Nat} {xs ys : List Int} (hb : xs.length ≤ 4611686018427387904) (hk : xs.length < k) : laws_eqByteS.f k xs ys = some (decide (xs = ys)) :=
  eq_fun (fun hl => eq_loop laws_eqByteS.l0 rd (fun a b c => if a = b then c else some false) (fun xs i h => rd_nat h) (fun k xs ys i => by simp only [laws_eqByteS.l0]) (fun a b c => rfl) hl hb _ k 0 rfl (Nat.zero_le _) (by omega))

theorem laws_eqInt64S_eq {k : Nat} {xs ys : List Int} (hb : xs.length ≤ 4611686018427387904) (hk : xs.length < k) : laws_eqInt64S.f k xs ys = some (decide (xs = ys)) :=
  eq_fun (fun hl => eq_loop laws_eqInt64S.l0 rd (fun a b c => if a = b then c else some false) (fun xs i h => rd_nat h) (fun k xs ys i => by simp only [laws_eqInt64S.l0]) (fun a b c => rfl) hl hb _ k 0 rfl (Nat.zero_le _) (by omega))

theorem laws_markByteS_eq {k : Nat} {x : Int} {xs : List Int} (hb : xs.length ≤ 1000000000000000000) (hk : xs.length < k) (h0 : 0 ≤ x) (h1 : x ≤ 1000000000000000000) : laws_markByteS.f k xs x = some (x + 1 * (xs.length : Int), marks (fun x => x % 256) 1 xs.length x) := by
  have h := mark_loop laws_markByteS.l0 (fun x => x % 256) 1 (by omega) (fun k xs x i => by simp only [laws_markByteS.l0]) xs.length k 0 x xs (by omega) rfl (Nat.zero_le _) hk h0 (by omega)
  rw [List.take_zero, List.nil_append] at h
  exact h

theorem laws_heldByteS_eq {k m : Nat} {x : Int} (hb : m ≤ 1000000000000000000) (hk : m < k) (h0 : 0 ≤ x) (h1 : x ≤ 1000000000000000000) : laws_heldByteS.f k (marks (fun x => x % 256) 1 m x) x = some (x + 1 * (m : Int)) := by
  have h := held_loop laws_heldByteS.l0 rd (fun a x o => if a = x % 256 then o else some (-1)) (fun x => x % 256) 1 (by omega) (fun xs i h => rd_nat h) (fun k xs x i => by simp only [laws_heldByteS.l0]) (fun x o h0 h1 => by simp) m k 0 x [] rfl (by omega) hk h0 (by omega)
  rw [List.nil_append] at h
  exact h

theorem laws_markInt64S_eq {k : Nat} {x : Int} {xs : List Int} (hb : xs.length ≤ 1000000000000000000) (hk : xs.length < k) (h0 : 0 ≤ x) (h1 : x ≤ 1000000000000000000) : laws_markInt64S.f k xs x = some (x + 1 * (xs.length : Int), marks (fun x => x) 1 xs.length x) := by
  have h := mark_loop laws_markInt64S.l0 (fun x => x) 1 (by omega) (fun k xs x i => by simp only [laws_markInt64S.l0]) xs.length k 0 x xs (by omega) rfl (Nat.zero_le _) hk h0 (by omega)
  rw [List.take_zero, List.nil_append] at h
  exact h

theorem laws_toInt64S_eq {k : Nat} {xs : List Int} (hb : xs.length ≤ 17592186044416) (hk : xs.length < k) : laws_toInt64S.f k xs = some xs := by
  unfold laws_toInt64S.f
  rw [if_pos (by omega), if_pos (by omega)]
  have h := copy_loop laws_toInt64S.l0 id rd (fun a c => c a) (fun xs i h => rd_nat h) (fun k xs ys i => by simp only [laws_toInt64S.l0]) (fun a c => rfl) (xs := xs) (by omega) _ k 0 (List.replicate ((xs.length : Int)).toNat 0) (by simp) rfl (Nat.zero_le _) hk (by simp)
  simpa using h

theorem laws_eqBytesResult_eq {k : Nat} {a b : Int} {xs ys : List Int} (hb : xs.length ≤ 4611686018427387904) (hk : xs.length < k) : laws_eqBytesResult.f k a xs b ys = some (decide (a = b ∧ xs = ys)) := by
  unfold laws_eqBytesResult.f
  rw [laws_eqByteS_eq hb hk]
  simp only [Option.bind_some]
  by_cases h1 : a = b <;> by_cases h2 : xs = ys <;> simp [h1, h2]

theorem laws_markBytesResult_eq {k : Nat} {a x : Int} {xs : List Int} (hb : xs.length ≤ 1000000000000000000) (hk : xs.length < k) (h0 : 0 ≤ x) (h1 : x ≤ 1000000000000000000) : laws_markBytesResult.f k a xs x = some (x + 1 * (xs.length : Int), marks (fun x => x % 256) 1 xs.length x) := by
  unfold laws_markBytesResult.f
  rw [laws_markByteS_eq hb hk h0 h1]
  rfl
theorem laws_heldBytesResult_eq {k m : Nat} {a x : Int} (hb : m ≤ 1000000000000000000) (hk : m < k) (h0 : 0 ≤ x) (h1 : x ≤ 1000000000000000000) : laws_heldBytesResult.f k a (marks (fun x => x % 256) 1 m x) x = some (x + 1 * (m : Int)) := by
  unfold laws_heldBytesResult.f
  rw [laws_heldByteS_eq hb hk h0 h1]
  simp only [Option.bind_some]
  rw [if_neg (by omega)]

/-- What both loops answer, from the i-th number on. -/
theorem all_loop (xs : List Int) (hb : xs.length ≤ 400) (d : Nat) : ∀ (k i : Nat) (out : List Int), xs.length - i = d → i ≤ xs.length → d < k → out.length ≤ 3 * i →
    ∃ r : Int × List Int, spec_EncodeAll.l0 k xs out (i : Int) = some r ∧ impl_EncodeAll.l0 k out xs (xs.length : Int) (i : Int) = some r ∧ r.2.length ≤ 1200 := by
  induction d with
  | zero =>
    intro k i out hd hi hk ho
    obtain ⟨k, rfl⟩ : ∃ m, k = m + 1 := ⟨k - 1, by omega⟩
    refine ⟨(0, out), ?_, ?_, by simp; omega⟩
    · simp only [spec_EncodeAll.l0]; rw [if_neg (by omega)]
    · simp only [impl_EncodeAll.l0]; rw [if_neg (by omega)]
  | succ d ih =>
    intro k i out hd hi hk ho
    obtain ⟨k, rfl⟩ : ∃ m, k = m + 1 := ⟨k - 1, by omega⟩
    have hx : i < xs.length := by omega
    simp only [spec_EncodeAll.l0, impl_EncodeAll.l0]
    rw [if_pos (by omega), if_pos (by omega), if_pos (by omega), if_pos (by omega), if_pos (by omega), rd_nat hx, spec_l1Char_eq, impl_isChar_eq]
    simp only [Option.bind_some]
    by_cases h : isCh xs[i] = true
    · obtain ⟨e, he, hl⟩ := encode_some xs[i]
      rw [if_pos h, if_pos h, encode_eq h, he]
      simp only [Option.bind_some]
      rw [if_pos (by omega), if_pos (by omega), w64n (by omega)]
      exact ih k (i + 1) (out ++ e) (by omega) (by omega) (by omega) (by rw [List.length_append]; omega)
    · rw [if_neg h, if_neg h]
      exact ⟨_, rfl, rfl, by simp⟩
theorem all_eq (xs : List Int) (k : Nat) (hk : 400 < k) : ∃ r : Int × List Int, spec_EncodeAll.f k xs = some r ∧ impl_EncodeAll.f k xs = some r ∧ r.2.length ≤ 1200 := by
  unfold spec_EncodeAll.f impl_EncodeAll.f
  by_cases h : (xs.length : Int) > 400
  · rw [if_pos h, if_pos h]
    exact ⟨_, rfl, rfl, by simp⟩
  · rw [if_neg h, if_neg h]
    exact all_loop xs (by omega) xs.length k 0 [] rfl (Nat.zero_le _) (by omega) (by simp)
theorem FnExactEncodeAll : laws_FnExactEncodeAll.Pure := by
  intro xs hm hb hw
  refine ⟨xs.length + 2000, ?_⟩
  unfold laws_FnExactEncodeAll.f
  by_cases h : (xs.length : Int) > 1048576
  · rw [if_pos h]
  · rw [if_neg h]
    obtain ⟨r, hr1, hr2, hl⟩ := all_eq xs (xs.length + 2000) (by omega)
    obtain ⟨r', hr1', hr2', _⟩ := all_eq xs (xs.length + 1999) (by omega)
    have hrr : r' = r := by
      have := spec_EncodeAll.mono xs (xs.length + 1999) _ hr1'
      rw [hr1] at this
      exact (Option.some.inj this).symm
    subst hrr
    rw [laws_toInt64S_eq (by omega) (by omega)]
    simp only [Option.bind_some]
    rw [hr1, hr2]
    simp only [Option.bind_some]
    rw [laws_eqBytesResult_eq (by omega) (by omega), laws_eqInt64S_eq (by omega) (by omega), laws_markInt64S_eq (by omega) (by omega) (by omega) (by omega)]
    simp only [and_self, decide_true, if_true, Option.bind_some]
    rw [if_neg (by omega)]
    simp only [laws_FnExactEncodeAll.j0, Bool.not_true, Bool.false_eq_true, if_false]
    rw [laws_markBytesResult_eq (by omega) (by omega) (by omega) (by omega)]
    simp only [Option.bind_some]
    rw [laws_heldBytesResult_eq (by omega) (by omega) (by omega) (by omega)]
    simp only [Option.bind_some]
    rw [if_neg (by omega), if_pos trivial, laws_toInt64S_eq (by omega) (by omega)]
    simp only [Option.bind_some]
    rw [hr2']
    simp only [Option.bind_some]
    rw [laws_eqBytesResult_eq (by omega) (by omega)]
    simp only [and_self, decide_true, if_true, Option.bind_some]
    rw [if_neg (by omega)]

end Go.Proofs.Ytomcgieedcbpbaa.Pure
