/- TextsFault: for every list of texts the program's answer is the reference's, and the texts stay as they were. No condition. -/
import Derived.Test.YticblminpeodjaaPFnExactTextsFaultx
import Derived.Test.YticblminpeodjaaPlain
namespace Go.Proofs.Yticblminpeodjaa.Pure
open Go Go.RowKit Go.Proofs.Yticblminpeodjaa.PFnExactTextsFault Go.Proofs.YticblminpeodjaaW.PrintWords Go.Proofs.YticblminpeodjaaW.PrintLast Go.Proofs.YticblminpeodjaaPlain
set_option linter.unusedVariables false
set_option linter.unusedSimpArgs false

theorem impl_unless_eq (b : Bool) (x : Int) : impl_unless.f b x = some (if b = true then 0 else x) := by
  unfold impl_unless.f
  split <;> rfl

theorem laws_szStringS_ex {k : Nat} {xs : List ByteArray} {n : Int} (hb : (xs.length : Int) ≤ 17592186044416) (hk : xs.length < k) (hn : n ≤ 1048576) (h0 : 0 ≤ n) (hs : ∀ y ∈ xs, y.size ≤ 140737488351232) : ∃ t : Int, laws_szStringS.f k xs n = some t ∧ (t = -1 ∨ (t ≤ n - (xs.length : Int) ∧ 0 ≤ t)) := by
  have loop : ∀ (d k i : Nat) (m : Int), xs.length - i = d → i ≤ xs.length → d < k → 0 ≤ m → m ≤ n - (xs.length : Int) → ∃ t : Int, laws_szStringS.l0 k xs m (i : Int) = some t ∧ (t = -1 ∨ (t ≤ n - (xs.length : Int) ∧ 0 ≤ t)) := by
    intro d
    induction d with
    | zero =>
      intro k i m hd hi hk h0 hm
      obtain ⟨k, rfl⟩ : ∃ m, k = m + 1 := ⟨k - 1, by omega⟩
      simp only [laws_szStringS.l0]
      rw [if_neg (by omega)]
      exact ⟨_, rfl, .inr ⟨hm, h0⟩⟩
    | succ d ih =>
      intro k i m hd hi hk h0 hm
      obtain ⟨k, rfl⟩ : ∃ m, k = m + 1 := ⟨k - 1, by omega⟩
      have hx : i < xs.length := by omega
      have hy := hs _ (List.getElem_mem hx)
      simp only [laws_szStringS.l0]
      rw [if_pos (by omega), if_pos (by omega), rdOf_nat hx, w64 (x := m - (xs[i].size : Int)) (by omega), w64n (by omega)]
      split
      · exact ⟨_, rfl, .inl rfl⟩
      · exact ih k (i + 1) _ (by omega) (by omega) (by omega) (by omega) (by omega)
  unfold laws_szStringS.f
  rw [w64 (x := n - (xs.length : Int)) (by omega)]
  split
  · exact ⟨_, rfl, .inl rfl⟩
  · exact loop xs.length k 0 _ (by omega) (Nat.zero_le _) hk (by omega) (by omega)

theorem laws_toStringS_eq {k : Nat} {xs : List ByteArray} (hb : xs.length ≤ 8796093022208) (hk : xs.length < k) : laws_toStringS.f k xs = some xs := by
  unfold laws_toStringS.f
  rw [if_pos (by omega), if_pos (by omega)]
  have h := copy_loop laws_toStringS.l0 id (rdOf ByteArray.empty) (fun a c => c a) (fun xs i h => rdOf_nat h) (fun k xs ys i => by simp only [laws_toStringS.l0]) (fun a c => rfl) (xs := xs) (by omega) _ k 0 (List.replicate ((xs.length : Int)).toNat (⟨#[]⟩ : ByteArray)) (by simp) rfl (Nat.zero_le _) hk (by simp)
  simpa using h

theorem laws_eqStringS_self {k : Nat} {xs : List ByteArray} (hb : xs.length ≤ 4611686018427387904) (hk : xs.length < k) : laws_eqStringS.f k xs xs = some true := by
  have loop : ∀ (d k i : Nat), xs.length - i = d → i ≤ xs.length → d < k → laws_eqStringS.l0 k xs xs (i : Int) = some true := by
    intro d
    induction d with
    | zero =>
      intro k i hd hi hk
      obtain ⟨k, rfl⟩ : ∃ m, k = m + 1 := ⟨k - 1, by omega⟩
      simp only [laws_eqStringS.l0]
      rw [if_neg (by omega)]
    | succ d ih =>
      intro k i hd hi hk
      obtain ⟨k, rfl⟩ : ∃ m, k = m + 1 := ⟨k - 1, by omega⟩
      simp only [laws_eqStringS.l0]
      rw [if_pos (by omega), if_pos (by omega), if_pos (by omega), w64n (by omega), if_pos trivial]
      exact ih k (i + 1) (by omega) (by omega) (by omega)
  unfold laws_eqStringS.f
  rw [if_pos rfl]
  exact loop xs.length k 0 (by omega) (Nat.zero_le _) hk

def textsF (xs : List ByteArray) : Int := if xs.length ≤ 4 then (if xs.any (fun y => decide ((y.size : Int) > 10)) = true then 3 else 0) else 2
theorem spec_l9Texts_eq {k : Nat} {xs : List ByteArray} (hb : xs.length ≤ 4611686018427387904) (hk : xs.length < k) : spec_l9Texts.f k xs = some (textsF xs) := by
  have h := any_loop spec_l9Texts.l0 (rdOf ByteArray.empty) (fun y => decide ((y.size : Int) > 10)) (3 : Int) 0 (fun xs i h => rdOf_nat h) (fun k xs i => by
    simp only [spec_l9Texts.l0, decide_eq_true_eq]) hb xs.length k 0 (by omega) (Nat.zero_le _) (by omega)
  rw [List.drop_zero] at h
  unfold spec_l9Texts.f textsF
  by_cases g : xs.length ≤ 4
  · rw [if_neg (by omega), if_pos g]
    exact h
  · rw [if_pos (by omega), if_neg g]
theorem impl_TextsFault_eq {k : Nat} {xs : List ByteArray} (hb : xs.length ≤ 4611686018427387904) (hk : xs.length < k) : impl_TextsFault.f k xs = some (textsF xs) := by
  obtain ⟨r, h, hr⟩ := index_loop slices_IndexFunc_string_string.l0 (rdOf ByteArray.empty) (fun y => decide ((y.size : Int) > 10)) (fun xs i h => rdOf_nat h) (fun k xs n i => by
    simp only [slices_IndexFunc_string_string.l0, impl_TextsFault_1.f, Option.bind_some]) hb xs.length k 0 (by omega) (Nat.zero_le _) (by omega)
  rw [List.drop_zero] at hr
  have h' : slices_IndexFunc_string_string.l0 k xs (xs.length : Int) 0 = some r := h
  unfold impl_TextsFault.f slices_ContainsFunc_string_string.f slices_IndexFunc_string_string.f textsF
  simp only [h', hr, Option.bind_some, impl_unless_eq]
  by_cases g : xs.length ≤ 4
  · rw [if_neg (by omega), if_pos g]
    cases xs.any (fun y => decide ((y.size : Int) > 10)) <;> rfl
  · rw [if_pos (by omega), if_neg g]

theorem FnExactTextsFault : ∀ (x0 : List ByteArray), (x0.length ≤ maxLen ∧ x0.length * 16 ≤ 140737488351232 ∧ ∀ y ∈ x0, y.size ≤ 140737488351232) → ∃ k, laws_FnExactTextsFault.f k x0 = some true := by
  intro xs hx
  obtain ⟨hm, hb, hw⟩ := hx
  refine ⟨xs.length + 100, ?_⟩
  unfold laws_FnExactTextsFault.f
  obtain ⟨t, ht, h⟩ := laws_szStringS_ex (k := xs.length + 100) (xs := xs) (n := 1048576) (by omega) (by omega) (by omega) (by omega) hw
  rw [ht]
  simp only [Option.bind_some]
  rcases h with rfl | ⟨h, h0⟩
  · simp
  rw [if_neg (by omega), laws_toStringS_eq (by omega) (by omega)]
  unfold spec_TextsFault.f
  simp only [Option.bind_some]
  rw [spec_l9Texts_eq (by omega) (by omega), impl_TextsFault_eq (by omega) (by omega)]
  simp only [Option.bind_some, if_true]
  rw [laws_eqStringS_self (by omega) (by omega)]
  simp

end Go.Proofs.Yticblminpeodjaa.Pure
