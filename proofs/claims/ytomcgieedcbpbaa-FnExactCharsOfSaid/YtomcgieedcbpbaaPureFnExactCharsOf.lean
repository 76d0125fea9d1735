/- CharsOf: for every font and every number the program's answer is the reference's; the font stays as it was, and the answer is the caller's own. No condition. -/
import Derived.Test.YtomcgieedcbpbaaPFnExactCharsOfx
import Derived.Test.YtomcgieedcbpbaaPlain
namespace Go.Proofs.Ytomcgieedcbpbaa.Pure
open Go Go.RowKit Go.Proofs.Ytomcgieedcbpbaa.PFnExactCharsOf Go.Proofs.YtomcgieedcbpbaaW.PrintWords Go.Proofs.YtomcgieedcbpbaaW.PrintLast Go.Proofs.YtomcgieedcbpbaaPlain
set_option linter.unusedVariables false
set_option linter.unusedSimpArgs false

instance : DecidableEq S72 := fun a b => match a, b with
  | ⟨a0, a1⟩, ⟨b0, b1⟩ => decidable_of_iff (a0 = b0 ∧ a1 = b1) (by simp)
instance : DecidableEq S74 := fun a b => match a, b with
  | ⟨a0, a1⟩, ⟨b0, b1⟩ => decidable_of_iff (a0 = b0 ∧ a1 = b1) (by simp)
instance : DecidableEq S53 := fun a b => match a, b with
  | ⟨a0, a1⟩, ⟨b0, b1⟩ => decidable_of_iff (a0 = b0 ∧ a1 = b1) (by simp)

theorem spec_l1In_eq (x a b : Int) : spec_l1In.f x a b = some (decide (a ≤ x ∧ x ≤ b)) := by
  unfold spec_l1In.f
  split <;> (congr 1; simp_all) <;> omega

theorem impl_in_eq (x a b : Int) : impl_in.f x a b = some (decide (a ≤ x ∧ x ≤ b)) := by
  unfold impl_in.f
  split <;> (congr 1; simp_all) <;> omega

theorem spec_l1Char_eq (x : Int) : spec_l1Char.f x = some (isCh x) := by
  unfold spec_l1Char.f isCh
  simp only [spec_l1In_eq, Option.bind_some]
  by_cases h : 0 ≤ x ∧ x ≤ 55295
  · simp [h]
  · rw [if_neg (by simpa using h)]
    congr 1
    simp only [h, false_or]

theorem impl_isChar_eq (x : Int) : impl_isChar.f x = some (isCh x) := by
  unfold impl_isChar.f isCh
  simp only [impl_in_eq, Option.bind_some]
  by_cases h : 0 ≤ x ∧ x ≤ 65535
  · rw [if_pos (by simpa using h), ← decide_not]
    congr 1
    refine decide_eq_decide.2 ?_
    omega
  · rw [if_neg (by simpa using h)]
    congr 1
    symm
    rw [decide_eq_false_iff_not]
    omega

theorem laws_eqInt64S_eq {k : Nat} {xs ys : List Int} (hb : xs.length ≤ 4611686018427387904) (hk : xs.length < k) : laws_eqInt64S.f k xs ys = some (decide (xs = ys)) :=
  eq_fun (fun hl => eq_loop laws_eqInt64S.l0 rd (fun a b c => if a = b then c else some false) (fun xs i h => rd_nat h) (fun k xs ys i => by simp only [laws_eqInt64S.l0]) (fun a b c => rfl) hl hb _ k 0 rfl (Nat.zero_le _) (by omega))

theorem laws_markInt64S_eq {k : Nat} {x : Int} {xs : List Int} (hb : xs.length ≤ 1000000000000000000) (hk : xs.length < k) (h0 : 0 ≤ x) (h1 : x ≤ 1000000000000000000) : laws_markInt64S.f k xs x = some (x + 1 * (xs.length : Int), marks (fun x => x) 1 xs.length x) := by
  have h := mark_loop laws_markInt64S.l0 (fun x => x) 1 (by omega) (fun k xs x i => by simp only [laws_markInt64S.l0]) xs.length k 0 x xs (by omega) rfl (Nat.zero_le _) hk h0 (by omega)
  rw [List.take_zero, List.nil_append] at h
  exact h

theorem laws_heldInt64S_eq {k m : Nat} {x : Int} (hb : m ≤ 1000000000000000000) (hk : m < k) (h0 : 0 ≤ x) (h1 : x ≤ 1000000000000000000) : laws_heldInt64S.f k (marks (fun x => x) 1 m x) x = some (x + 1 * (m : Int)) := by
  have h := held_loop laws_heldInt64S.l0 rd (fun a x o => if a = x then o else some (-1)) (fun x => x) 1 (by omega) (fun xs i h => rd_nat h) (fun k xs x i => by simp only [laws_heldInt64S.l0]) (fun x o h0 h1 => by simp) m k 0 x [] rfl (by omega) hk h0 (by omega)
  rw [List.nil_append] at h
  exact h

theorem laws_eqIntsResult_eq {k : Nat} {a b : Int} {xs ys : List Int} (hb : xs.length ≤ 4611686018427387904) (hk : xs.length < k) : laws_eqIntsResult.f k a xs b ys = some (decide (a = b ∧ xs = ys)) := by
  unfold laws_eqIntsResult.f
  rw [laws_eqInt64S_eq hb hk]
  simp only [Option.bind_some]
  by_cases h1 : a = b <;> by_cases h2 : xs = ys <;> simp [h1, h2]

theorem laws_markIntsResult_eq {k : Nat} {a x : Int} {xs : List Int} (hb : xs.length ≤ 1000000000000000000) (hk : xs.length < k) (h0 : 0 ≤ x) (h1 : x ≤ 1000000000000000000) : laws_markIntsResult.f k a xs x = some (x + 1 * (xs.length : Int), marks (fun x => x) 1 xs.length x) := by
  unfold laws_markIntsResult.f
  rw [laws_markInt64S_eq hb hk h0 h1]
  rfl
theorem laws_heldIntsResult_eq {k m : Nat} {a x : Int} (hb : m ≤ 1000000000000000000) (hk : m < k) (h0 : 0 ≤ x) (h1 : x ≤ 1000000000000000000) : laws_heldIntsResult.f k a (marks (fun x => x) 1 m x) x = some (x + 1 * (m : Int)) := by
  unfold laws_heldIntsResult.f
  rw [laws_heldInt64S_eq hb hk h0 h1]
  simp only [Option.bind_some]
  rw [if_neg (by omega)]

theorem rdPaira {xs : List S72} {i : Nat} (h : i < xs.length) : rd_T72 xs (i : Int) = xs[i] := getD_nat h
def toPair (p : S72) : S74 := ⟨p.f0, p.f1⟩
theorem laws_toPairS_eq {k : Nat} {xs : List S72} (hb : xs.length ≤ 8796093022208) (hk : xs.length < k) : laws_toPairS.f k xs = some (xs.map toPair) := by
  unfold laws_toPairS.f
  rw [if_pos (by omega), if_pos (by omega)]
  exact copy_loop laws_toPairS.l0 toPair rd_T72 (fun a c => c (toPair a)) (fun xs i h => rdPaira h) (fun k xs ys i => by simp only [laws_toPairS.l0, laws_toPair.f, Option.bind_some, toPair]) (fun a c => rfl) (xs := xs) (by omega) _ k 0 (List.replicate ((xs.length : Int)).toNat z74) (by simp) rfl (Nat.zero_le _) hk (by simp)
theorem rdPairb {xs : List S74} {i : Nat} (h : i < xs.length) : rd_T74 xs (i : Int) = xs[i] := getD_nat h
theorem laws_eqPair_eq (a b : S74) : laws_eqPair.f a.f0 a.f1 b.f0 b.f1 = some (decide (a = b)) := by
  unfold laws_eqPair.f
  obtain ⟨a0, a1⟩ := a
  obtain ⟨b0, b1⟩ := b
  by_cases h1 : a0 = b0 <;> by_cases h2 : a1 = b1 <;> simp [h1, h2]
theorem laws_eqPairS_eq {k : Nat} {xs ys : List S74} (hb : xs.length ≤ 4611686018427387904) (hk : xs.length < k) : laws_eqPairS.f k xs ys = some (decide (xs = ys)) :=
  eq_fun (fun hl => eq_loop laws_eqPairS.l0 rd_T74 (fun a b c => if a = b then c else some false) (fun xs i h => rdPairb h) (fun k xs ys i => by simp only [laws_eqPairS.l0, laws_eqPair_eq, Option.bind_some, decide_eq_true_eq]) (fun a b c => rfl) hl hb _ k 0 rfl (Nat.zero_le _) (by omega))
theorem wPair2 (x : Int) : wrap64 (wrap64 (x + 1) + 1) = wrap64 (x + 2) := by unfold wrap64; omega
def putPair (x : Int) : S74 := ⟨x, wrap64 (x + 1)⟩
theorem laws_markPairS_eq {k : Nat} {x : Int} {xs : List S74} (hb : xs.length ≤ 1000000000000000000) (hk : xs.length < k) (h0 : 0 ≤ x) (h1 : x ≤ 1000000000000000000) : laws_markPairS.f k xs x = some (x + 2 * (xs.length : Int), marks putPair 2 xs.length x) := by
  have h := mark_loop laws_markPairS.l0 putPair 2 (by omega) (fun k xs x i => by
    simp only [laws_markPairS.l0]
    split
    · split
      · rename_i g1 g2
        obtain ⟨j, rfl⟩ := Int.eq_ofNat_of_zero_le g2
        simp only [Option.bind_some, Int.toNat_natCast, List.set_set]
        rw [rdPairb (by rw [List.length_set]; omega), wPair2, List.getElem_set_self]
        rfl
      · rfl
    · rfl) xs.length k 0 x xs (by omega) rfl (Nat.zero_le _) hk h0 (by omega)
  rw [List.take_zero, List.nil_append] at h
  exact h
/-- What is left of a size, or -1. -/
theorem laws_szPairS_eq {xs : List S72} {n : Int} (h : (xs.length : Int) ≤ 8796093022208) (hn : n ≤ 1048576) (h0 : -1 ≤ n) : laws_szPairS.f xs n = some (if n - (xs.length : Int) < 0 then -1 else n - (xs.length : Int)) := by
  unfold laws_szPairS.f
  rw [w64 (by omega)]
  split <;> rfl

theorem impl_first2 {k : Nat} (hk : 3 ≤ k) (a b : Int) : impl_first.f k [a, b] = some (if a = 0 then b else a) := by
  obtain ⟨k, rfl⟩ : ∃ m, k = m + 3 := ⟨k - 3, by omega⟩
  have w0 : wrap64 1 = 1 := by unfold wrap64; omega
  have w1 : wrap64 2 = 2 := by unfold wrap64; omega
  by_cases h1 : a = 0
  · by_cases h2 : b = 0
    · simp [impl_first.f, impl_first.l0, rd, w0, w1, h1, h2]
    · simp [impl_first.f, impl_first.l0, rd, w0, w1, h1, h2]
  · simp [impl_first.f, impl_first.l0, rd, w0, w1, h1]

theorem impl_unless_eq (b : Bool) (x : Int) : impl_unless.f b x = some (if b = true then 0 else x) := by
  unfold impl_unless.f
  split <;> rfl


theorem spec_l2Pair_eq (a b : Int) : spec_l2Pair.f a b = some (decide (isCh a = true ∧ 0 ≤ b ∧ b ≤ 255)) := by
  unfold spec_l2Pair.f
  simp only [spec_l1In_eq, spec_l1Char_eq, Option.bind_some]
  cases isCh a <;> simp
theorem impl_Pair_ok_eq (a b : Int) : impl_Pair_ok.f a b = some (decide (isCh a = true ∧ 0 ≤ b ∧ b ≤ 255)) := by
  unfold impl_Pair_ok.f
  simp only [impl_in_eq, impl_isChar_eq, Option.bind_some]
  cases isCh a <;> simp
/-- What is wrong with the i-th pair. -/
def pairC (xs : List S74) (i : Int) : Int := if isCh (rd_T74 xs i).f0 = true ∧ 0 ≤ (rd_T74 xs i).f1 ∧ (rd_T74 xs i).f1 ≤ 255 then (if 0 < i ∧ (rd_T74 xs i).f0 ≤ (rd_T74 xs (i - 1)).f0 then 1 else 0) else 3
/-- What is wrong with a font. -/
def fontF (a : Int) (xs : List S74) : Int := if 0 ≤ a ∧ a ≤ 255 then (if xs.length ≤ 20 then codeFrom (pairC xs) xs.length 0 else 2) else 3
theorem spec_l2Fault_eq {k : Nat} (a : Int) (xs : List S74) (hk : 40 ≤ k) : spec_l2Fault.f k a xs = some (fontF a xs) := by
  unfold spec_l2Fault.f fontF
  simp only [spec_l1In_eq, Option.bind_some]
  by_cases h1 : 0 ≤ a ∧ a ≤ 255
  · by_cases h2 : xs.length ≤ 20
    · have h3 : ¬ (xs.length : Int) > 20 := by omega
      have h := code_loop (fun k i => spec_l2Fault.l0 k i a xs) (pairC xs) xs.length 0 (fun k i hk h0 hi => by
        have e1 : wrap64 (i - 1) = i - 1 := w64 (by omega)
        have e2 : wrap64 (i + 1) = i + 1 := w64 (by omega)
        have e3 : i - 1 < (xs.length : Int) := by omega
        simp only [spec_l2Fault.l0, spec_l2Pair_eq, Option.bind_some, if_pos h0, if_pos hi, e1, e2, if_pos e3]
        unfold pairC
        by_cases g1 : isCh (rd_T74 xs i).f0 = true ∧ 0 ≤ (rd_T74 xs i).f1 ∧ (rd_T74 xs i).f1 ≤ 255
        · by_cases g2 : 0 < i
          · have e4 : 0 ≤ i - 1 := by omega
            have e5 : 1 ≤ i := by omega
            by_cases g3 : (rd_T74 xs i).f0 ≤ (rd_T74 xs (i - 1)).f0 <;> simp [g1, g2, g3, e4, e5]
          · simp [g1, g2]
        · simp [g1]) (fun k hk => by simp only [spec_l2Fault.l0]; rw [if_neg (by omega)]) xs.length k 0 (by omega) (by omega) (by omega)
      simp only [h1, and_self, decide_true, if_true, if_neg h3, if_pos h2]
      exact h
    · have h3 : (xs.length : Int) > 20 := by omega
      simp only [h1, and_self, decide_true, if_true, if_pos h3, if_neg h2]
  · simp [h1]
theorem impl_FontFault_eq {k : Nat} (a : Int) (xs : List S74) (hk : 40 ≤ k) : impl_FontFault.f k a xs = some (fontF a xs) := by
  unfold impl_FontFault.f fontF
  simp only [impl_in_eq, impl_unless_eq, Option.bind_some]
  rw [impl_first2 (by omega)]
  simp only [Option.bind_some]
  by_cases h1 : 0 ≤ a ∧ a ≤ 255
  · by_cases h2 : xs.length ≤ 20
    · have h3 : (xs.length : Int) ≤ 20 := by omega
      have h := code_loop (fun k i => impl_FontFault.l0 k xs (xs.length : Int) i a xs) (pairC xs) xs.length 5 (fun k i hk h0 hi => by
        have e1 : wrap64 (i - 1) = i - 1 := w64 (by omega)
        have e2 : wrap64 (i + 1) = i + 1 := w64 (by omega)
        have e3 : i - 1 < (xs.length : Int) := by omega
        simp only [impl_FontFault.l0, impl_Pair_ok_eq, impl_unless_eq, Option.bind_some, if_pos h0, if_pos hi, e1, e2, if_pos e3]
        rw [impl_first2 (by omega)]
        unfold pairC
        by_cases g1 : isCh (rd_T74 xs i).f0 = true ∧ 0 ≤ (rd_T74 xs i).f1 ∧ (rd_T74 xs i).f1 ≤ 255
        · by_cases g2 : i = 0
          · subst g2
            simp [g1]
          · have e4 : 0 ≤ i - 1 := by omega
            have e5 : 1 ≤ i := by omega
            have e6 : 0 < i := by omega
            rw [impl_first2 (by omega)]
            by_cases g3 : (rd_T74 xs i).f0 ≤ (rd_T74 xs (i - 1)).f0
            · have g4 : ¬ (rd_T74 xs i).f0 > (rd_T74 xs (i - 1)).f0 := by omega
              simp [g1, g2, g3, g4, e4, e5, e6]
            · have g4 : (rd_T74 xs i).f0 > (rd_T74 xs (i - 1)).f0 := by omega
              simp [g1, g2, g3, g4, e4, e5]
        · by_cases g2 : i = 0
          · subst g2
            simp [g1]
          · have e4 : 0 ≤ i - 1 := by omega
            have e5 : 1 ≤ i := by omega
            rw [impl_first2 (by omega)]
            simp [g1, g2, e4, e5]) (fun k hk => by simp only [impl_FontFault.l0]; rw [if_neg (by omega)]) xs.length k 0 (by omega) (by omega) (by omega)
      simp only [h1, and_self, decide_true, if_true, h3, if_pos h2]
      exact h
    · have h3 : ¬ (xs.length : Int) ≤ 20 := by omega
      simp [h1, h2, h3]
  · simp [h1]


theorem laws_szFont_ex {a : Int} {xs} {n : Int} (h : (List.length xs : Int) ≤ 8796093022208) (hn : n ≤ 1048576) (h0 : 0 ≤ n) : ∃ t : Int, laws_szFont.f a xs n = some t ∧ (t = -1 ∨ (t = n - (List.length xs : Int) ∧ 0 ≤ t)) := by
  unfold laws_szFont.f
  rw [laws_szPairS_eq h hn (by omega)]
  simp only [Option.bind_some]
  by_cases g : n - (List.length xs : Int) < 0
  · exact ⟨-1, by simp [g], .inl rfl⟩
  · exact ⟨n - (List.length xs : Int), by simp [g], .inr ⟨rfl, by omega⟩⟩

theorem laws_toFont_eq {k : Nat} {a : Int} {xs} (hb : List.length xs ≤ 8796093022208) (hk : List.length xs < k) : laws_toFont.f k a xs = some (a, xs.map toPair) := by
  unfold laws_toFont.f
  rw [laws_toPairS_eq hb hk]
  rfl

theorem laws_eqFont_eq {k : Nat} {a b : Int} {xs ys} (hb : List.length xs ≤ 4611686018427387904) (hk : List.length xs < k) : laws_eqFont.f k a xs b ys = some (decide (a = b ∧ xs = ys)) := by
  unfold laws_eqFont.f
  rw [laws_eqPairS_eq hb hk]
  simp only [Option.bind_some]
  by_cases h1 : a = b <;> by_cases h2 : xs = ys <;> simp [h1, h2]

theorem markany_loop {α : Type} (l : Nat → List α → Int → Int → Option (Int × List α)) (F : List α → Int → Int → List α) (wr : Int → Int) (c : Int) (hc : 0 ≤ c)
    (hF : ∀ xs x i, (F xs x i).length = xs.length) (hw : ∀ x, 0 ≤ x → x + c ≤ 9223372036854775807 → wr x = x + c)
    (hs : ∀ k xs x i, l (k + 1) xs x i = if i < (xs.length : Int) then (if 0 ≤ i then l k (F xs x i) (wr x) (wrap64 (i + 1)) else none) else some (x, xs)) :
    ∀ (d k i : Nat) (x : Int) (xs : List α), xs.length ≤ 4611686018427387904 → xs.length - i = d → i ≤ xs.length → d < k → 0 ≤ x → x + c * d ≤ 9223372036854775807 → ∃ ys, l k xs x (i : Int) = some (x + c * d, ys) ∧ ys.length = xs.length := by
  intro d
  induction d with
  | zero =>
    intro k i x xs hb hd hi hk h0 hx
    obtain ⟨k, rfl⟩ : ∃ m, k = m + 1 := ⟨k - 1, by omega⟩
    refine ⟨xs, ?_, rfl⟩
    rw [hs, if_neg (by omega)]
    simp
  | succ d ih =>
    intro k i x xs hb hd hi hk h0 hx
    obtain ⟨k, rfl⟩ : ∃ m, k = m + 1 := ⟨k - 1, by omega⟩
    have e1 : c * ((d + 1 : Nat) : Int) = c + c * (d : Int) := by
      rw [Int.natCast_add, Int.mul_add]
      omega
    rw [e1] at hx ⊢
    have h1 : 0 ≤ c * (d : Int) := Int.mul_nonneg hc (by omega)
    obtain ⟨ys, h2, h3⟩ := ih k (i + 1) (x + c) (F xs x i) (by rw [hF]; exact hb) (by rw [hF]; omega) (by rw [hF]; omega) (by omega) (by omega) (by omega)
    refine ⟨ys, ?_, by rw [h3, hF]⟩
    rw [hs, if_pos (by omega), if_pos (by omega), hw x h0 (by omega), w64n (by omega), h2]
    congr 2
    omega


theorem laws_markPairS_ex {k : Nat} {xs : List S74} {x : Int} (hb : List.length xs ≤ 17592186044416) (hk : List.length xs < k) (h0 : 0 ≤ x) (h1 : x ≤ 1000000) : ∃ ys, laws_markPairS.f k xs x = some (x + 2 * (List.length xs : Int), ys) ∧ ys.length = xs.length := by
  unfold laws_markPairS.f
  exact markany_loop laws_markPairS.l0 (fun xs x i => (xs.set (i : Int).toNat (⟨x, (rd_T74 xs i).f1⟩ : S74)).set (i : Int).toNat (⟨(rd_T74 (xs.set (i : Int).toNat (⟨x, (rd_T74 xs i).f1⟩ : S74)) i).f0, wrap64 (x + 1)⟩ : S74)) (fun x => wrap64 (wrap64 (x + 1) + 1)) 2 (by omega) (fun xs x i => (List.length_set ..).trans (List.length_set ..)) (fun x h0 h1 => by
    show wrap64 (wrap64 (x + 1) + 1) = x + 2
    rw [w64 (x := x + 1) (by omega), w64 (by omega)]
    omega) (fun k xs x i => by
    simp only [laws_markPairS.l0, Option.bind_some]) xs.length k 0 x xs (by omega) rfl (Nat.zero_le _) hk h0 (by omega)


theorem laws_markFont_ex {k : Nat} {a : Int} {xs} {x : Int} (hb : List.length xs ≤ 17592186044416) (hk : List.length xs < k) (h0 : 0 ≤ x) (h1 : x ≤ 1000000) : ∃ ys, laws_markFont.f k a xs x = some (x + 2 * (List.length xs : Int), ys) := by
  obtain ⟨ys, h, _⟩ := laws_markPairS_ex hb hk h0 h1
  unfold laws_markFont.f
  rw [h]
  exact ⟨ys, rfl⟩


theorem filter_loop {α β : Type} (A : Nat → Int → List Int → Option β) (rdf : List α → Int → α) (p : α → Bool) (g : α → Int) (fin : List Int → β) (xs : List α)
    (hr : ∀ (xs : List α) (i : Nat) (h : i < xs.length), rdf xs (i : Int) = xs[i]) (hb : xs.length ≤ 1000)
    (hs : ∀ (k : Nat) (i : Int) (acc : List Int), 0 ≤ i → i < (xs.length : Int) → acc.length ≤ 1000 → A (k + 1) i acc = if p (rdf xs i) = true then A k (i + 1) (acc ++ [g (rdf xs i)]) else A k (i + 1) acc)
    (he : ∀ (k : Nat) (acc : List Int), A (k + 1) (xs.length : Int) acc = some (fin acc)) :
    ∀ (d k i : Nat) (acc : List Int), xs.length - i = d → i ≤ xs.length → d < k → acc.length ≤ i → A k (i : Int) acc = some (fin (acc ++ ((xs.drop i).filter p).map g)) := by
  intro d
  induction d with
  | zero =>
    intro k i acc hd hi hk ha
    obtain ⟨k, rfl⟩ : ∃ m, k = m + 1 := ⟨k - 1, by omega⟩
    obtain rfl : i = xs.length := by omega
    rw [he, List.drop_eq_nil_of_le (by omega)]
    simp
  | succ d ih =>
    intro k i acc hd hi hk ha
    obtain ⟨k, rfl⟩ : ∃ m, k = m + 1 := ⟨k - 1, by omega⟩
    have hx : i < xs.length := by omega
    have e1 : (i : Int) + 1 = ((i + 1 : Nat) : Int) := by omega
    have ef : (xs.drop i).filter p = if p xs[i] = true then xs[i] :: (xs.drop (i + 1)).filter p else (xs.drop (i + 1)).filter p := by
      rw [List.drop_eq_getElem_cons hx, List.filter_cons]
    rw [hs k i acc (by omega) (by omega) (by omega), hr xs i hx, e1, ef]
    by_cases hp : p xs[i] = true
    · rw [if_pos hp, if_pos hp, ih k (i + 1) _ (by omega) (by omega) (by omega) (by simp; omega), List.map_cons, List.append_assoc, List.singleton_append]
    · rw [if_neg hp, if_neg hp, ih k (i + 1) _ (by omega) (by omega) (by omega) (by omega)]
def charsF (a : Int) (xs : List S74) (c : Int) : Int × List Int := if fontF a xs = 0 then (if 0 ≤ c ∧ c ≤ 255 then (0, (xs.filter (fun q => decide (q.f1 = c))).map (fun q => q.f0)) else (3, [])) else (fontF a xs, [])
theorem fontF_len {a : Int} {xs : List S74} (h : fontF a xs = 0) : xs.length ≤ 20 := by
  unfold fontF at h
  split at h
  · split at h
    · assumption
    · omega
  · omega
theorem spec_CharsOf_eq {k : Nat} (a : Int) (xs : List S74) (c : Int) (hk : 100 ≤ k) : spec_CharsOf.f k a xs c = some (charsF a xs c) := by
  unfold spec_CharsOf.f charsF
  rw [spec_l2Fault_eq _ _ (by omega)]
  simp only [spec_l1In_eq, Option.bind_some]
  by_cases h : fontF a xs = 0
  · have hl := fontF_len h
    rw [if_pos h, if_pos h]
    by_cases hc : 0 ≤ c ∧ c ≤ 255
    · rw [if_pos (by simpa using hc), if_pos hc]
      have := filter_loop (fun k i acc => spec_CharsOf.l0 k c i a xs 0 acc) rd_T74 (fun q => decide (q.f1 = c)) (fun q => q.f0) (fun l => ((0 : Int), l)) xs (fun xs i h => rdPairb h) (by omega) (fun k i acc h0 hi ha => by
        simp only [spec_CharsOf.l0, if_pos h0, if_pos hi, w64 (x := i + 1) (by omega), decide_eq_true_eq]
        rw [if_pos (show acc.length < 17592186044416 by omega)]) (fun k acc => by simp only [spec_CharsOf.l0]; rw [if_neg (by omega)]) xs.length k 0 [] (by omega) (Nat.zero_le _) (by omega) (Nat.zero_le _)
      rw [List.drop_zero] at this
      exact this
    · rw [if_neg (by simpa using hc), if_neg hc]
  · rw [if_neg h, if_neg h]
theorem impl_CharsOf_eq {k : Nat} (a : Int) (xs : List S74) (c : Int) (hk : 100 ≤ k) : impl_CharsOf.f k a xs c = some (charsF a xs c) := by
  unfold impl_CharsOf.f charsF
  rw [impl_FontFault_eq _ _ (by omega)]
  simp only [impl_in_eq, impl_unless_eq, Option.bind_some]
  rw [impl_first2 (by omega)]
  simp only [Option.bind_some]
  by_cases h : fontF a xs = 0
  · have hl := fontF_len h
    rw [if_pos h, if_pos h]
    by_cases hc : 0 ≤ c ∧ c ≤ 255
    · rw [if_pos (by simpa using hc), if_pos hc]
      have := filter_loop (fun k i acc => impl_CharsOf.l0 k c acc xs (xs.length : Int) i) rd_T74 (fun q => decide (q.f1 = c)) (fun q => q.f0) (fun l => ((0 : Int), l)) xs (fun xs i h => rdPairb h) (by omega) (fun k i acc h0 hi ha => by
        simp only [impl_CharsOf.l0, if_pos h0, if_pos hi, w64 (x := i + 1) (by omega), decide_eq_true_eq]
        rw [if_pos (show acc.length < 17592186044416 by omega)]) (fun k acc => by simp only [impl_CharsOf.l0]; rw [if_neg (by omega)]) xs.length k 0 [] (by omega) (Nat.zero_le _) (by omega) (Nat.zero_le _)
      rw [List.drop_zero] at this
      exact this
    · simp [hc]
  · simp [h]
theorem charsF_len (a : Int) (xs : List S74) (c : Int) : (charsF a xs c).2.length ≤ xs.length := by
  unfold charsF
  split
  · split
    · simp only [List.length_map]
      exact List.length_filter_le _ _
    · simp
  · simp


theorem FnExactCharsOf : ∀ (x0 : S53) (x1 : Int), (((Lit.int .i64 x0.f0).wf = true) ∧ (x0.f1.length ≤ maxLen ∧ x0.f1.length * 16 ≤ 140737488351232 ∧ ∀ y ∈ x0.f1, ((Lit.int .i64 y.f0).wf = true) ∧ ((Lit.int .i64 y.f1).wf = true))) → ((Lit.int .i64 x1).wf = true) → ∃ k, laws_FnExactCharsOf.f k x0.f0 x0.f1 x1 = some true := by
  intro x c hx hc
  obtain ⟨_, hm, hb, hw⟩ := hx
  refine ⟨x.f1.length + 200, ?_⟩
  generalize hK : x.f1.length + 200 = K
  unfold laws_FnExactCharsOf.f
  obtain ⟨t, ht, h⟩ := laws_szFont_ex (a := x.f0) (xs := x.f1) (n := 1048576) (by omega) (by omega) (by omega)
  rw [ht]
  simp only [Option.bind_some]
  rcases h with rfl | ⟨h, h0⟩
  · simp
  rw [if_neg (by omega), laws_toFont_eq (by omega) (by omega)]
  simp only [Option.bind_some]
  have hl := charsF_len x.f0 (x.f1.map toPair) c
  rw [List.length_map] at hl
  obtain ⟨ys, hy⟩ := laws_markFont_ex (k := K) (a := x.f0) (xs := x.f1.map toPair) (x := 1) (by simp; omega) (by simp; omega) (by omega) (by omega)
  simp only [spec_CharsOf_eq _ _ _ (show 100 ≤ K by omega), impl_CharsOf_eq _ _ _ (show 100 ≤ K by omega), Option.bind_some]
  rw [laws_eqIntsResult_eq (by omega) (by omega)]
  simp only [Option.bind_some, and_self, decide_true, if_true]
  rw [laws_eqFont_eq (by simp; omega) (by simp; omega)]
  simp only [Option.bind_some, and_self, decide_true, if_true, hy]
  rw [if_neg (by omega), laws_markIntsResult_eq (by omega) (by omega) (by omega) (by omega)]
  simp only [Option.bind_some]
  rw [laws_heldIntsResult_eq (by omega) (by omega) (by omega) (by omega)]
  simp only [Option.bind_some, if_true]
  rw [if_neg (by omega)]
  rw [if_neg (by omega)]

end Go.Proofs.Ytomcgieedcbpbaa.Pure
