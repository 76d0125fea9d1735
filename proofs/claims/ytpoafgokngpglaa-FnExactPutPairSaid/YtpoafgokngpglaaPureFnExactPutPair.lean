/- PutPair: for every font and every pair the program's answer is the reference's; the font stays as it was, and the answer is the caller's own. No condition. -/
import Derived.Test.YtpoafgokngpglaaPFnExactPutPairx
import Derived.Test.YtpoafgokngpglaaQaPlain
namespace Go.Proofs.Ytpoafgokngpglaa.Pure
open Go Go.RowKit Go.Proofs.Ytpoafgokngpglaa.PFnExactPutPair Go.Proofs.YtpoafgokngpglaaW.PrintWords Go.Proofs.YtpoafgokngpglaaW.PrintLast Go.Proofs.YtpoafgokngpglaaPlain
set_option linter.unusedVariables false
set_option linter.unusedSimpArgs false

instance : DecidableEq S28 := fun a b => match a, b with
  | ⟨a0, a1⟩, ⟨b0, b1⟩ => decidable_of_iff (a0 = b0 ∧ a1 = b1) (by simp)
instance : DecidableEq S42 := fun a b => match a, b with
  | ⟨a0, a1⟩, ⟨b0, b1⟩ => decidable_of_iff (a0 = b0 ∧ a1 = b1) (by simp)
instance : DecidableEq S41 := fun a b => match a, b with
  | ⟨a0, a1⟩, ⟨b0, b1⟩ => decidable_of_iff (a0 = b0 ∧ a1 = b1) (by simp)

theorem spec_l1In_eq (x a b : Int) : spec_l1In.f x a b = some (decide (a ≤ x ∧ x ≤ b)) := by
  unfold spec_l1In.f
  split <;> (congr 1; simp_all) <;> omega

theorem impl_in_eq (x a b : Int) : impl_in.f x a b = some (decide (a ≤ x ∧ x ≤ b)) := by
  unfold impl_in.f
  split <;> (congr 1; simp_all) <;> omega

theorem spec_l1Char_eq (x : Int) : spec_l1Char.f x = some (isCh x) := by
  unfold spec_l1Char.f isCh
  simp only [spec_l1In_eq, Option.bind_some]
  by_cases h : 0 ≤ x ∧ x ≤ 55295
  · simp [h]
  · rw [if_neg (by simpa using h)]
    congr 1
    simp only [h, false_or]

theorem impl_isChar_eq (x : Int) : impl_isChar.f x = some (isCh x) := by
  unfold impl_isChar.f isCh
  simp only [impl_in_eq, Option.bind_some]
  by_cases h : 0 ≤ x ∧ x ≤ 65535
  · rw [if_pos (by simpa using h), ← decide_not]
    congr 1
    refine decide_eq_decide.2 ?_
    omega
  · rw [if_neg (by simpa using h)]
    congr 1
    symm
    rw [decide_eq_false_iff_not]
    omega

theorem rdPaira {xs : List S42} {i : Nat} (h : i < xs.length) : rd_T42 xs (i : Int) = xs[i] := getD_nat h
def toPair (p : S42) : S28 := ⟨p.f0, p.f1⟩
theorem laws_toPairS_eq {k : Nat} {xs : List S42} (hb : xs.length ≤ 8796093022208) (hk : xs.length < k) : laws_toPairS.f k xs = some (xs.map toPair) := by
  unfold laws_toPairS.f
  rw [if_pos (by omega), if_pos (by omega)]
  exact copy_loop laws_toPairS.l0 toPair rd_T42 (fun a c => c (toPair a)) (fun xs i h => rdPaira h) (fun k xs ys i => by simp only [laws_toPairS.l0, laws_toPair.f, Option.bind_some, toPair]) (fun a c => rfl) (xs := xs) (by omega) _ k 0 (List.replicate ((xs.length : Int)).toNat z28) (by simp) rfl (Nat.zero_le _) hk (by simp)
theorem rdPairb {xs : List S28} {i : Nat} (h : i < xs.length) : rd_T28 xs (i : Int) = xs[i] := getD_nat h
theorem laws_eqPair_eq (a b : S28) : laws_eqPair.f a.f0 a.f1 b.f0 b.f1 = some (decide (a = b)) := by
  unfold laws_eqPair.f
  obtain ⟨a0, a1⟩ := a
  obtain ⟨b0, b1⟩ := b
  by_cases h1 : a0 = b0 <;> by_cases h2 : a1 = b1 <;> simp [h1, h2]
theorem laws_eqPairS_eq {k : Nat} {xs ys : List S28} (hb : xs.length ≤ 4611686018427387904) (hk : xs.length < k) : laws_eqPairS.f k xs ys = some (decide (xs = ys)) :=
  eq_fun (fun hl => eq_loop laws_eqPairS.l0 rd_T28 (fun a b c => if a = b then c else some false) (fun xs i h => rdPairb h) (fun k xs ys i => by simp only [laws_eqPairS.l0, laws_eqPair_eq, Option.bind_some, decide_eq_true_eq]) (fun a b c => rfl) hl hb _ k 0 rfl (Nat.zero_le _) (by omega))
theorem wPair2 (x : Int) : wrap64 (wrap64 (x + 1) + 1) = wrap64 (x + 2) := by unfold wrap64; omega
def putPair (x : Int) : S28 := ⟨x, wrap64 (x + 1)⟩
theorem laws_markPairS_eq {k : Nat} {x : Int} {xs : List S28} (hb : xs.length ≤ 1000000000000000000) (hk : xs.length < k) (h0 : 0 ≤ x) (h1 : x ≤ 1000000000000000000) : laws_markPairS.f k xs x = some (x + 2 * (xs.length : Int), marks putPair 2 xs.length x) := by
  have h := mark_loop laws_markPairS.l0 putPair 2 (by omega) (fun k xs x i => by
    simp only [laws_markPairS.l0]
    split
    · split
      · rename_i g1 g2
        obtain ⟨j, rfl⟩ := Int.eq_ofNat_of_zero_le g2
        simp only [Option.bind_some, Int.toNat_natCast, List.set_set]
        rw [rdPairb (by rw [List.length_set]; omega), wPair2, List.getElem_set_self]
        rfl
      · rfl
    · rfl) xs.length k 0 x xs (by omega) rfl (Nat.zero_le _) hk h0 (by omega)
  rw [List.take_zero, List.nil_append] at h
  exact h
theorem laws_heldPairS_eq {k m : Nat} {x : Int} (hb : m ≤ 1000000000000000000) (hk : m < k) (h0 : 0 ≤ x) (h1 : x ≤ 1000000000000000000) : laws_heldPairS.f k (marks putPair 2 m x) x = some (x + 2 * (m : Int)) := by
  have h := held_loop laws_heldPairS.l0 rd_T28 (fun a x o => if a.f0 = x then (if a.f1 = wrap64 (x + 1) then o else some (-1)) else some (-1)) putPair 2 (by omega) (fun xs i h => rdPairb h) (fun k xs x i => by simp only [laws_heldPairS.l0, wPair2]) (fun x o h0 h1 => by simp [putPair]) m k 0 x [] rfl (by omega) hk h0 (by omega)
  rw [List.nil_append] at h
  exact h
/-- What is left of a size, or -1. -/
theorem laws_szPairS_eq {xs : List S42} {n : Int} (h : (xs.length : Int) ≤ 8796093022208) (hn : n ≤ 1048576) (h0 : -1 ≤ n) : laws_szPairS.f xs n = some (if n - (xs.length : Int) < 0 then -1 else n - (xs.length : Int)) := by
  unfold laws_szPairS.f
  rw [w64 (by omega)]
  split <;> rfl

theorem impl_first2 {k : Nat} (hk : 3 ≤ k) (a b : Int) : impl_first.f k [a, b] = some (if a = 0 then b else a) := by
  obtain ⟨k, rfl⟩ : ∃ m, k = m + 3 := ⟨k - 3, by omega⟩
  have w0 : wrap64 1 = 1 := by unfold wrap64; omega
  have w1 : wrap64 2 = 2 := by unfold wrap64; omega
  by_cases h1 : a = 0
  · by_cases h2 : b = 0
    · simp [impl_first.f, impl_first.l0, rd, w0, w1, h1, h2]
    · simp [impl_first.f, impl_first.l0, rd, w0, w1, h1, h2]
  · simp [impl_first.f, impl_first.l0, rd, w0, w1, h1]

theorem impl_unless_eq (b : Bool) (x : Int) : impl_unless.f b x = some (if b = true then 0 else x) := by
  unfold impl_unless.f
  split <;> rfl


theorem spec_l2Pair_eq (a b : Int) : spec_l2Pair.f a b = some (decide (isCh a = true ∧ 0 ≤ b ∧ b ≤ 255)) := by
  unfold spec_l2Pair.f
  simp only [spec_l1In_eq, spec_l1Char_eq, Option.bind_some]
  cases isCh a <;> simp
theorem impl_Pair_ok_eq (a b : Int) : impl_Pair_ok.f a b = some (decide (isCh a = true ∧ 0 ≤ b ∧ b ≤ 255)) := by
  unfold impl_Pair_ok.f
  simp only [impl_in_eq, impl_isChar_eq, Option.bind_some]
  cases isCh a <;> simp
/-- What is wrong with the i-th pair. -/
def pairC (xs : List S28) (i : Int) : Int := if isCh (rd_T28 xs i).f0 = true ∧ 0 ≤ (rd_T28 xs i).f1 ∧ (rd_T28 xs i).f1 ≤ 255 then (if 0 < i ∧ (rd_T28 xs i).f0 ≤ (rd_T28 xs (i - 1)).f0 then 1 else 0) else 3
/-- What is wrong with a font. -/
def fontF (a : Int) (xs : List S28) : Int := if 0 ≤ a ∧ a ≤ 255 then (if xs.length ≤ 20 then codeFrom (pairC xs) xs.length 0 else 2) else 3
theorem spec_l2Fault_eq {k : Nat} (a : Int) (xs : List S28) (hk : 40 ≤ k) : spec_l2Fault.f k a xs = some (fontF a xs) := by
  unfold spec_l2Fault.f fontF
  simp only [spec_l1In_eq, Option.bind_some]
  by_cases h1 : 0 ≤ a ∧ a ≤ 255
  · by_cases h2 : xs.length ≤ 20
    · have h3 : ¬ (xs.length : Int) > 20 := by omega
      have h := code_loop (fun k i => spec_l2Fault.l0 k i a xs) (pairC xs) xs.length 0 (fun k i hk h0 hi => by
        have e1 : wrap64 (i - 1) = i - 1 := w64 (by omega)
        have e2 : wrap64 (i + 1) = i + 1 := w64 (by omega)
        have e3 : i - 1 < (xs.length : Int) := by omega
        simp only [spec_l2Fault.l0, spec_l2Pair_eq, Option.bind_some, if_pos h0, if_pos hi, e1, e2, if_pos e3]
        unfold pairC
        by_cases g1 : isCh (rd_T28 xs i).f0 = true ∧ 0 ≤ (rd_T28 xs i).f1 ∧ (rd_T28 xs i).f1 ≤ 255
        · by_cases g2 : 0 < i
          · have e4 : 0 ≤ i - 1 := by omega
            have e5 : 1 ≤ i := by omega
            by_cases g3 : (rd_T28 xs i).f0 ≤ (rd_T28 xs (i - 1)).f0 <;> simp [g1, g2, g3, e4, e5]
          · simp [g1, g2]
        · simp [g1]) (fun k hk => by simp only [spec_l2Fault.l0]; rw [if_neg (by omega)]) xs.length k 0 (by omega) (by omega) (by omega)
      simp only [h1, and_self, decide_true, if_true, if_neg h3, if_pos h2]
      exact h
    · have h3 : (xs.length : Int) > 20 := by omega
      simp only [h1, and_self, decide_true, if_true, if_pos h3, if_neg h2]
  · simp [h1]
theorem impl_FontFault_eq {k : Nat} (a : Int) (xs : List S28) (hk : 40 ≤ k) : impl_FontFault.f k a xs = some (fontF a xs) := by
  unfold impl_FontFault.f fontF
  simp only [impl_in_eq, impl_unless_eq, Option.bind_some]
  rw [impl_first2 (by omega)]
  simp only [Option.bind_some]
  by_cases h1 : 0 ≤ a ∧ a ≤ 255
  · by_cases h2 : xs.length ≤ 20
    · have h3 : (xs.length : Int) ≤ 20 := by omega
      have h := code_loop (fun k i => impl_FontFault.l0 k xs (xs.length : Int) i a xs) (pairC xs) xs.length 5 (fun k i hk h0 hi => by
        have e1 : wrap64 (i - 1) = i - 1 := w64 (by omega)
        have e2 : wrap64 (i + 1) = i + 1 := w64 (by omega)
        have e3 : i - 1 < (xs.length : Int) := by omega
        simp only [impl_FontFault.l0, impl_Pair_ok_eq, impl_unless_eq, Option.bind_some, if_pos h0, if_pos hi, e1, e2, if_pos e3]
        rw [impl_first2 (by omega)]
        unfold pairC
        by_cases g1 : isCh (rd_T28 xs i).f0 = true ∧ 0 ≤ (rd_T28 xs i).f1 ∧ (rd_T28 xs i).f1 ≤ 255
        · by_cases g2 : i = 0
          · subst g2
            simp [g1]
          · have e4 : 0 ≤ i - 1 := by omega
            have e5 : 1 ≤ i := by omega
            have e6 : 0 < i := by omega
            rw [impl_first2 (by omega)]
            by_cases g3 : (rd_T28 xs i).f0 ≤ (rd_T28 xs (i - 1)).f0
            · have g4 : ¬ (rd_T28 xs i).f0 > (rd_T28 xs (i - 1)).f0 := by omega
              simp [g1, g2, g3, g4, e4, e5, e6]
            · have g4 : (rd_T28 xs i).f0 > (rd_T28 xs (i - 1)).f0 := by omega
              simp [g1, g2, g3, g4, e4, e5]
        · by_cases g2 : i = 0
          · subst g2
            simp [g1]
          · have e4 : 0 ≤ i - 1 := by omega
            have e5 : 1 ≤ i := by omega
            rw [impl_first2 (by omega)]
            simp [g1, g2, e4, e5]) (fun k hk => by simp only [impl_FontFault.l0]; rw [if_neg (by omega)]) xs.length k 0 (by omega) (by omega) (by omega)
      simp only [h1, and_self, decide_true, if_true, h3, if_pos h2]
      exact h
    · have h3 : ¬ (xs.length : Int) ≤ 20 := by omega
      simp [h1, h2, h3]
  · simp [h1]


theorem laws_szFont_ex {a : Int} {xs} {n : Int} (h : (List.length xs : Int) ≤ 8796093022208) (hn : n ≤ 1048576) (h0 : 0 ≤ n) : ∃ t : Int, laws_szFont.f a xs n = some t ∧ (t = -1 ∨ (t = n - (List.length xs : Int) ∧ 0 ≤ t)) := by
  unfold laws_szFont.f
  rw [laws_szPairS_eq h hn (by omega)]
  simp only [Option.bind_some]
  by_cases g : n - (List.length xs : Int) < 0
  · exact ⟨-1, by simp [g], .inl rfl⟩
  · exact ⟨n - (List.length xs : Int), by simp [g], .inr ⟨rfl, by omega⟩⟩

theorem laws_toFont_eq {k : Nat} {a : Int} {xs} (hb : List.length xs ≤ 8796093022208) (hk : List.length xs < k) : laws_toFont.f k a xs = some (a, xs.map toPair) := by
  unfold laws_toFont.f
  rw [laws_toPairS_eq hb hk]
  rfl

theorem laws_eqFont_eq {k : Nat} {a b : Int} {xs ys} (hb : List.length xs ≤ 4611686018427387904) (hk : List.length xs < k) : laws_eqFont.f k a xs b ys = some (decide (a = b ∧ xs = ys)) := by
  unfold laws_eqFont.f
  rw [laws_eqPairS_eq hb hk]
  simp only [Option.bind_some]
  by_cases h1 : a = b <;> by_cases h2 : xs = ys <;> simp [h1, h2]


/-- A font without a fault: its pairs rise, and are characters. -/
theorem font_rises {a : Int} {xs : List S28} (h : fontF a xs = 0) : xs.length ≤ 20 ∧ (0 ≤ a ∧ a ≤ 255) ∧ (∀ (i : Nat) (hi : i < xs.length), isCh xs[i].f0 = true ∧ 0 ≤ xs[i].f1 ∧ xs[i].f1 ≤ 255) ∧ (∀ (i j : Nat) (hi : i < j) (hj : j < xs.length), xs[i].f0 < xs[j].f0) := by
  unfold fontF at h
  by_cases h1 : 0 ≤ a ∧ a ≤ 255
  · rw [if_pos h1] at h
    by_cases h2 : xs.length ≤ 20
    · rw [if_pos h2] at h
      have hz := codeFrom_zero (pairC xs) xs.length 0 h
      have hz' : ∀ i : Nat, (hi : i < xs.length) → (isCh xs[i].f0 = true ∧ 0 ≤ xs[i].f1 ∧ xs[i].f1 ≤ 255) ∧ (∀ h0 : 0 < i, xs[i - 1].f0 < xs[i].f0) := by
        intro i hi
        have := hz i (by omega) (by omega)
        unfold pairC at this
        rw [rdPairb hi] at this
        by_cases g1 : isCh xs[i].f0 = true ∧ 0 ≤ xs[i].f1 ∧ xs[i].f1 ≤ 255
        · rw [if_pos g1] at this
          refine ⟨g1, fun h0 => ?_⟩
          have e : ((i : Int) - 1) = ((i - 1 : Nat) : Int) := by omega
          rw [e, rdPairb (by omega)] at this
          by_cases g2 : 0 < (i : Int) ∧ xs[i].f0 ≤ xs[i - 1].f0
          · rw [if_pos g2] at this
            omega
          · omega
        · rw [if_neg g1] at this
          omega
      refine ⟨h2, h1, fun i hi => (hz' i hi).1, fun i j hij hj => ?_⟩
      obtain ⟨d, rfl⟩ : ∃ d, j = i + 1 + d := ⟨j - i - 1, by omega⟩
      induction d with
      | zero =>
        have := (hz' (i + 1) hj).2 (by omega)
        simpa using this
      | succ d ih =>
        have h3 := ih (by omega) (by omega)
        have h4 := (hz' (i + 1 + (d + 1)) hj).2 (by omega)
        have e : i + 1 + (d + 1) - 1 = i + 1 + d := by omega
        simp only [e] at h4
        omega
    · rw [if_neg h2] at h
      omega
  · rw [if_neg h1] at h
    omega
/-- Where a character's pair is, or would be. -/
theorem place_eq {k : Nat} {a : Int} {xs : List S28} (h : fontF a xs = 0) (x : Int) (hx : isCh x = true) (hk : 100 ≤ k) :
    ∃ p : Nat, impl_Font_place.f k a xs x = some ((p : Int), decide (∃ h : p < xs.length, xs[p].f0 = x)) ∧ p ≤ xs.length ∧ (∀ (m : Nat) (hm : m < xs.length), m < p → xs[m].f0 < x) ∧ (∀ (m : Nat) (hm : m < xs.length), p ≤ m → x ≤ xs[m].f0) := by
  obtain ⟨hl, ha, hc, hr⟩ := font_rises h
  rw [isCh_iff] at hx
  have hd : ∀ (i : Nat) (hi : i < xs.length), wrap64 ((rd_T28 xs (i : Int)).f0 - x) = xs[i].f0 - x := by
    intro i hi
    rw [rdPairb hi]
    have := (hc i hi).1
    rw [isCh_iff] at this
    exact w64 (by omega)
  obtain ⟨p, h1, h2, h3, h4⟩ := bs_loop (fun k i j => impl_Pair_int64.l0 k xs x (xs.length : Int) i j) (fun i => wrap64 ((rd_T28 xs i).f0 - x)) xs.length 0
    (fun k i j _ h0 hij hj => by
      simp only [impl_Pair_int64.l0, impl_Font_place_1.f, Option.bind_some]
      rw [if_pos hij, mid_eq h0 (by omega) (by omega), if_pos (by omega), if_pos (by omega), w64 (x := (i + j) / 2 + 1) (by omega)])
    (fun k i _ h0 hi => by
      simp only [impl_Pair_int64.l0, impl_Font_place_1.f, Option.bind_some]
      rw [if_neg (by omega)]
      by_cases g : i < (xs.length : Int)
      · simp only [g, h0, if_true]
      · simp only [g, if_false])
    (fun i j h0 hij hj hlt => by
      obtain ⟨i, rfl⟩ := Int.eq_ofNat_of_zero_le h0
      obtain ⟨j, rfl⟩ := Int.eq_ofNat_of_zero_le (show 0 ≤ j by omega)
      rw [hd j (by omega)] at hlt
      rw [hd i (by omega)]
      by_cases e : i = j
      · subst e; exact hlt
      · have := hr i j (by omega) (by omega)
        omega)
    xs.length k 0 (xs.length : Int) (by omega) (by omega) (by omega) (by omega) (fun m h1 h2 => by omega) (fun m h1 h2 => by omega) (by omega)
  refine ⟨p, ?_, h2, fun m hm hmp => ?_, fun m hm hpm => ?_⟩
  · unfold impl_Font_place.f impl_Pair_int64.f
    rw [h1]
    simp only [Option.bind_some]
    congr 2
    refine decide_eq_decide.2 ?_
    constructor
    · rintro ⟨g1, g2⟩
      rw [hd p g1] at g2
      exact ⟨g1, by omega⟩
    · rintro ⟨g1, g2⟩
      refine ⟨g1, ?_⟩
      rw [hd p g1]
      omega
  · have := h3 m hmp
    rw [hd m hm] at this
    omega
  · have := h4 m hpm hm
    rw [hd m hm] at this
    omega
/-- What the search finds is what the list's first pair of that character is. -/
theorem place_find {a : Int} {xs : List S28} (h : fontF a xs = 0) {x : Int} {p : Nat} (h1 : ∀ (m : Nat) (hm : m < xs.length), m < p → xs[m].f0 < x) :
    (∀ (hp : p < xs.length), xs[p].f0 = x → xs.find? (fun q => decide (q.f0 = x)) = some xs[p]) ∧ ((∀ (m : Nat) (hm : m < xs.length), p ≤ m → x ≤ xs[m].f0) → ¬ (∃ hp : p < xs.length, xs[p].f0 = x) → xs.find? (fun q => decide (q.f0 = x)) = none) := by
  obtain ⟨hl, ha, hc, hr⟩ := font_rises h
  constructor
  · intro hp e
    rw [List.find?_eq_some_iff_getElem]
    refine ⟨by simpa using e, p, hp, rfl, fun j hj => ?_⟩
    have := h1 j (by omega) hj
    simp
    omega
  · intro h2 hn
    rw [List.find?_eq_none]
    intro q hq
    obtain ⟨i, hi, rfl⟩ := List.mem_iff_getElem.1 hq
    simp only [decide_eq_true_eq]
    intro e
    rcases Nat.lt_or_ge i p with g | g
    · have := h1 i hi g
      omega
    · by_cases e2 : i = p
      · subst e2
        exact hn ⟨hi, e⟩
      · have g3 := hr p i (by omega) hi
        have g4 := h2 p (by omega) (Nat.le_refl _)
        omega


theorem markany_loop {α : Type} (l : Nat → List α → Int → Int → Option (Int × List α)) (F : List α → Int → Int → List α) (wr : Int → Int) (c : Int) (hc : 0 ≤ c)
    (hF : ∀ xs x i, (F xs x i).length = xs.length) (hw : ∀ x, 0 ≤ x → x + c ≤ 9223372036854775807 → wr x = x + c)
    (hs : ∀ k xs x i, l (k + 1) xs x i = if i < (xs.length : Int) then (if 0 ≤ i then l k (F xs x i) (wr x) (wrap64 (i + 1)) else none) else some (x, xs)) :
    ∀ (d k i : Nat) (x : Int) (xs : List α), xs.length ≤ 4611686018427387904 → xs.length - i = d → i ≤ xs.length → d < k → 0 ≤ x → x + c * d ≤ 9223372036854775807 → ∃ ys, l k xs x (i : Int) = some (x + c * d, ys) ∧ ys.length = xs.length := by
  intro d
  induction d with
  | zero =>
    intro k i x xs hb hd hi hk h0 hx
    obtain ⟨k, rfl⟩ : ∃ m, k = m + 1 := ⟨k - 1, by omega⟩
    refine ⟨xs, ?_, rfl⟩
    rw [hs, if_neg (by omega)]
    simp
  | succ d ih =>
    intro k i x xs hb hd hi hk h0 hx
    obtain ⟨k, rfl⟩ : ∃ m, k = m + 1 := ⟨k - 1, by omega⟩
    have e1 : c * ((d + 1 : Nat) : Int) = c + c * (d : Int) := by
      rw [Int.natCast_add, Int.mul_add]
      omega
    rw [e1] at hx ⊢
    have h1 : 0 ≤ c * (d : Int) := Int.mul_nonneg hc (by omega)
    obtain ⟨ys, h2, h3⟩ := ih k (i + 1) (x + c) (F xs x i) (by rw [hF]; exact hb) (by rw [hF]; omega) (by rw [hF]; omega) (by omega) (by omega) (by omega)
    refine ⟨ys, ?_, by rw [h3, hF]⟩
    rw [hs, if_pos (by omega), if_pos (by omega), hw x h0 (by omega), w64n (by omega), h2]
    congr 2
    omega


theorem laws_markPairS_ex {k : Nat} {xs : List S28} {x : Int} (hb : List.length xs ≤ 17592186044416) (hk : List.length xs < k) (h0 : 0 ≤ x) (h1 : x ≤ 1000000) : ∃ ys, laws_markPairS.f k xs x = some (x + 2 * (List.length xs : Int), ys) ∧ ys.length = xs.length := by
  unfold laws_markPairS.f
  exact markany_loop laws_markPairS.l0 (fun xs x i => (xs.set (i : Int).toNat (⟨x, (rd_T28 xs i).f1⟩ : S28)).set (i : Int).toNat (⟨(rd_T28 (xs.set (i : Int).toNat (⟨x, (rd_T28 xs i).f1⟩ : S28)) i).f0, wrap64 (x + 1)⟩ : S28)) (fun x => wrap64 (wrap64 (x + 1) + 1)) 2 (by omega) (fun xs x i => (List.length_set ..).trans (List.length_set ..)) (fun x h0 h1 => by
    show wrap64 (wrap64 (x + 1) + 1) = x + 2
    rw [w64 (x := x + 1) (by omega), w64 (by omega)]
    omega) (fun k xs x i => by
    simp only [laws_markPairS.l0, Option.bind_some]) xs.length k 0 x xs (by omega) rfl (Nat.zero_le _) hk h0 (by omega)


theorem laws_markFont_ex {k : Nat} {a : Int} {xs} {x : Int} (hb : List.length xs ≤ 17592186044416) (hk : List.length xs < k) (h0 : 0 ≤ x) (h1 : x ≤ 1000000) : ∃ ys, laws_markFont.f k a xs x = some (x + 2 * (List.length xs : Int), ys) := by
  obtain ⟨ys, h, _⟩ := laws_markPairS_ex hb hk h0 h1
  unfold laws_markFont.f
  rw [h]
  exact ⟨ys, rfl⟩


theorem laws_eqFontResult_eq {k : Nat} {a b a' b' : Int} {xs ys : List S28} (hb : xs.length ≤ 4611686018427387904) (hk : xs.length < k) : laws_eqFontResult.f k a b xs a' b' ys = some (decide (a = a' ∧ b = b' ∧ xs = ys)) := by
  unfold laws_eqFontResult.f
  rw [laws_eqFont_eq hb hk]
  simp only [Option.bind_some]
  by_cases h1 : a = a' <;> by_cases h2 : b = b' <;> by_cases h3 : xs = ys <;> simp [h1, h2, h3]
theorem laws_markFontResult_eq {k : Nat} {a b x : Int} {xs : List S28} (hb : xs.length ≤ 1000000000000000000) (hk : xs.length < k) (h0 : 0 ≤ x) (h1 : x ≤ 1000000000000000000) : laws_markFontResult.f k a b xs x = some (x + 2 * (xs.length : Int), marks putPair 2 xs.length x) := by
  unfold laws_markFontResult.f laws_markFont.f
  rw [laws_markPairS_eq hb hk h0 h1]
  rfl
theorem laws_heldFontResult_eq {k m : Nat} {a b x : Int} (hb : m ≤ 1000000000000000000) (hk : m < k) (h0 : 0 ≤ x) (h1 : x ≤ 1000000000000000000) : laws_heldFontResult.f k a b (marks putPair 2 m x) x = some (x + 2 * (m : Int)) := by
  unfold laws_heldFontResult.f laws_heldFont.f
  rw [laws_heldPairS_eq hb hk h0 h1]
  simp only [Option.bind_some]
  rw [if_neg (by omega)]
  simp only [Option.bind_some]
  rw [if_neg (by omega)]



theorem bs_some (L : Nat → Int → Int → Option (Int × Bool)) (c : Int → Int) (n : Nat)
    (hs : ∀ (k : Nat) (i j : Int), 0 ≤ i → i < j → j ≤ (n : Int) → L (k + 1) i j = if c ((i + j) / 2) < 0 then L k ((i + j) / 2 + 1) j else L k i ((i + j) / 2))
    (he : ∀ (k : Nat) (i : Int), 0 ≤ i → i ≤ (n : Int) → L (k + 1) i i = if i < (n : Int) then some (i, c i == 0) else some (i, false)) :
    ∀ (d k : Nat) (i j : Int), (j - i).toNat ≤ d → 0 ≤ i → i ≤ j → j ≤ (n : Int) → d < k → ∃ r, L k i j = some r := by
  intro d
  induction d with
  | zero =>
    intro k i j hd h0 hij hj hk
    obtain ⟨k, rfl⟩ : ∃ m, k = m + 1 := ⟨k - 1, by omega⟩
    obtain rfl : i = j := by omega
    rw [he k i h0 hj]
    split <;> exact ⟨_, rfl⟩
  | succ d ih =>
    intro k i j hd h0 hij hj hk
    by_cases hlt : i < j
    · obtain ⟨k, rfl⟩ : ∃ m, k = m + 1 := ⟨k - 1, by omega⟩
      rw [hs k i j h0 hlt hj]
      split
      · exact ih k ((i + j) / 2 + 1) j (by omega) (by omega) (by omega) hj (by omega)
      · exact ih k i ((i + j) / 2) (by omega) h0 (by omega) (by omega) (by omega)
    · exact ih k i j (by omega) h0 hij hj (by omega)
theorem place_some {k : Nat} {a : Int} {xs : List S28} (hl : xs.length ≤ 20) (x : Int) (hk : 100 ≤ k) : ∃ r : Int × Bool, impl_Font_place.f k a xs x = some r := by
  obtain ⟨r, h⟩ := bs_some (fun k i j => impl_Pair_int64.l0 k xs x (xs.length : Int) i j) (fun i => wrap64 ((rd_T28 xs i).f0 - x)) xs.length
    (fun k i j h0 hij hj => by
      simp only [impl_Pair_int64.l0, impl_Font_place_1.f, Option.bind_some]
      rw [if_pos hij, mid_eq h0 (by omega) (by omega), if_pos (by omega), if_pos (by omega), w64 (x := (i + j) / 2 + 1) (by omega)])
    (fun k i h0 hi => by
      simp only [impl_Pair_int64.l0, impl_Font_place_1.f, Option.bind_some]
      rw [if_neg (by omega)]
      by_cases g : i < (xs.length : Int)
      · simp only [g, h0, if_true]
      · simp only [g, if_false])
    xs.length k 0 (xs.length : Int) (by omega) (by omega) (by omega) (by omega) (by omega)
  unfold impl_Font_place.f impl_Pair_int64.f
  refine ⟨(r.1, r.2), ?_⟩
  rw [h]
  rfl



theorem less_loop {a c : Int} {xs : List S28} (hl : xs.length ≤ 20) : ∀ (d k i : Nat) (acc : List S28), xs.length - i = d → i ≤ xs.length → d < k → acc.length ≤ i → spec_l2Less.l0 k c acc (i : Int) a xs = some (acc ++ (xs.drop i).filter (fun q => decide (q.f0 ≠ c))) := by
  intro d
  induction d with
  | zero =>
    intro k i acc hd hi hk ha
    obtain ⟨k, rfl⟩ : ∃ m, k = m + 1 := ⟨k - 1, by omega⟩
    simp only [spec_l2Less.l0]
    rw [if_neg (by omega), List.drop_eq_nil_of_le (by omega)]
    simp
  | succ d ih =>
    intro k i acc hd hi hk ha
    obtain ⟨k, rfl⟩ : ∃ m, k = m + 1 := ⟨k - 1, by omega⟩
    have hx : i < xs.length := by omega
    have ef : (xs.drop i).filter (fun q => decide (q.f0 ≠ c)) = if decide (xs[i].f0 ≠ c) = true then xs[i] :: (xs.drop (i + 1)).filter (fun q => decide (q.f0 ≠ c)) else (xs.drop (i + 1)).filter (fun q => decide (q.f0 ≠ c)) := by
      rw [List.drop_eq_getElem_cons hx, List.filter_cons]
    simp only [spec_l2Less.l0]
    rw [if_pos (by omega), if_pos (by omega), rdPairb hx, w64n (by omega), ef]
    by_cases g : xs[i].f0 = c
    · rw [if_pos g, if_neg (by simpa using g), ih k (i + 1) acc (by omega) (by omega) (by omega) (by omega)]
    · rw [if_neg g, if_pos (by omega), if_pos (by simpa using g), ih k (i + 1) _ (by omega) (by omega) (by omega) (by simp; omega), List.append_assoc, List.singleton_append]
theorem none_there {xs : List S28} {c : Int} (h : ∀ (i : Nat) (hi : i < xs.length), xs[i].f0 ≠ c) : (xs.filter (fun q => decide (q.f0 ≠ c))).length = xs.length := by
  rw [List.length_filter_eq_length_iff]
  intro q hq
  obtain ⟨i, hi, rfl⟩ := List.mem_iff_getElem.1 hq
  simpa using h i hi
theorem one_out {xs : List S28} {c : Int} {p : Nat} (hp : p < xs.length) (e : xs[p].f0 = c) (hr : ∀ (i j : Nat) (hi : i < j) (hj : j < xs.length), xs[i].f0 < xs[j].f0) : xs.filter (fun q => decide (q.f0 ≠ c)) = xs.eraseIdx p ∧ (xs.filter (fun q => decide (q.f0 ≠ c))).length ≠ xs.length := by
  have h1 : (xs.take p).filter (fun q => decide (q.f0 ≠ c)) = xs.take p := by
    rw [List.filter_eq_self]
    intro q hq
    obtain ⟨i, hi, rfl⟩ := List.mem_iff_getElem.1 hq
    rw [List.length_take] at hi
    rw [List.getElem_take]
    have := hr i p (by omega) hp
    simp
    omega
  have h2 : (xs.drop (p + 1)).filter (fun q => decide (q.f0 ≠ c)) = xs.drop (p + 1) := by
    rw [List.filter_eq_self]
    intro q hq
    obtain ⟨i, hi, rfl⟩ := List.mem_iff_getElem.1 hq
    rw [List.length_drop] at hi
    rw [List.getElem_drop]
    have := hr p (p + 1 + i) (by omega) (by omega)
    simp
    omega
  have h3 : xs.filter (fun q => decide (q.f0 ≠ c)) = xs.take p ++ xs.drop (p + 1) := by
    have e0 : xs = xs.take p ++ (xs[p] :: xs.drop (p + 1)) := by
      rw [← List.drop_eq_getElem_cons hp, List.take_append_drop]
    have e1 : xs.filter (fun q => decide (q.f0 ≠ c)) = (xs.take p ++ (xs[p] :: xs.drop (p + 1))).filter (fun q => decide (q.f0 ≠ c)) := by rw [← e0]
    rw [e1, List.filter_append, h1, List.filter_cons, if_neg (by simpa using e), h2]
  refine ⟨by rw [h3, List.eraseIdx_eq_take_drop_succ], ?_⟩
  rw [h3, List.length_append, List.length_take, List.length_drop]
  omega



def putF (a : Int) (xs : List S28) (c g : Int) : Int × Int × List S28 := if fontF a xs = 0 then (if isCh c = true ∧ 0 ≤ g ∧ g ≤ 255 then (if 20 ≤ (xs.filter (fun q => decide (q.f0 ≠ c))).length then (2, 0, []) else (0, a, (xs.filter (fun q => decide (q.f0 ≠ c))).takeWhile (fun q => decide (q.f0 < c)) ++ [⟨c, g⟩] ++ (xs.filter (fun q => decide (q.f0 ≠ c))).dropWhile (fun q => decide (q.f0 < c)))) else (3, 0, [])) else (fontF a xs, 0, [])
theorem while_at {l : List S28} {c : Int} : ∀ {q : Nat} (_ : q ≤ l.length) (_ : ∀ (m : Nat) (hm : m < l.length), m < q → l[m].f0 < c) (_ : ∀ (h : q < l.length), c ≤ l[q].f0), l.takeWhile (fun x => decide (x.f0 < c)) = l.take q ∧ l.dropWhile (fun x => decide (x.f0 < c)) = l.drop q := by
  induction l with
  | nil =>
    intro q hq _ _
    simp
  | cons y r ih =>
    intro q hq h1 h2
    match q with
    | 0 =>
      have := h2 (by simp)
      simp only [List.getElem_cons_zero] at this
      have hn : ¬ y.f0 < c := by omega
      simp [hn]
    | q + 1 =>
      have h0 := h1 0 (by simp) (by omega)
      simp only [List.getElem_cons_zero] at h0
      obtain ⟨e1, e2⟩ := ih (q := q) (by simpa using hq) (fun m hm hmq => by have := h1 (m + 1) (by simpa using hm) (by omega); simpa using this) (fun h => by have := h2 (by simpa using h); simpa using this)
      simp [h0, e1, e2]
theorem put_loop {l : List S28} {c g a : Int} {xs : List S28} {q : Nat} (hl : l.length ≤ 20) (hq : q ≤ l.length) (h1 : ∀ (m : Nat) (hm : m < l.length), m < q → l[m].f0 < c) (h2 : ∀ (h : q < l.length), c ≤ l[q].f0) :
    ∀ (d k i : Nat), q - i = d → i ≤ q → d < k → spec_PutPair.l0 k l (i : Int) a xs c g = some (0, a, l.take q ++ [⟨c, g⟩] ++ l.drop q) := by
  intro d
  induction d with
  | zero =>
    intro k i hd hi hk
    obtain ⟨k, rfl⟩ : ∃ m, k = m + 1 := ⟨k - 1, by omega⟩
    obtain rfl : i = q := by omega
    simp only [spec_PutPair.l0, Option.bind_some, List.nil_append, List.length_nil, Int.toNat_natCast]
    have t1 : (l.take i).length = i := by rw [List.length_take]; omega
    have t2 : (l.drop i).length = l.length - i := List.length_drop
    by_cases h : i < l.length
    · have h3 := h2 h
      rw [if_pos (by omega), if_pos (by omega), rdPairb h, if_neg (by omega), if_pos (by omega), if_pos (by omega), if_pos (by omega), if_pos (by simp; omega)]
    · rw [if_neg (by omega), if_pos (by omega), if_pos (by omega), if_pos (by omega), if_pos (by omega), if_pos (by simp; omega)]
  | succ d ih =>
    intro k i hd hi hk
    obtain ⟨k, rfl⟩ : ∃ m, k = m + 1 := ⟨k - 1, by omega⟩
    have hx : i < l.length := by omega
    have h3 := h1 i hx (by omega)
    simp only [spec_PutPair.l0]
    rw [if_pos (by omega), if_pos (by omega), rdPairb hx, if_pos h3, w64n (by omega)]
    exact ih k (i + 1) (by omega) (by omega) (by omega)
theorem put_place {xs : List S28} {c : Int} {p : Nat} (hr : ∀ (i j : Nat) (hi : i < j) (hj : j < xs.length), xs[i].f0 < xs[j].f0) (p2 : p ≤ xs.length) (p3 : ∀ (m : Nat) (hm : m < xs.length), m < p → xs[m].f0 < c) (p4 : ∀ (m : Nat) (hm : m < xs.length), p ≤ m → c ≤ xs[m].f0) :
    (∀ (h : p < xs.length), xs[p].f0 = c → (xs.filter (fun q => decide (q.f0 ≠ c))).length + 1 = xs.length ∧ (xs.filter (fun q => decide (q.f0 ≠ c))) = xs.take p ++ xs.drop (p + 1)) ∧ ((¬ ∃ h : p < xs.length, xs[p].f0 = c) → xs.filter (fun q => decide (q.f0 ≠ c)) = xs) := by
  constructor
  · intro hp e
    obtain ⟨f1, _⟩ := one_out hp e hr
    rw [f1, List.length_eraseIdx_of_lt hp]
    exact ⟨by omega, List.eraseIdx_eq_take_drop_succ _ _⟩
  · intro hp
    rw [List.filter_eq_self]
    intro q hq
    obtain ⟨i, hi, rfl⟩ := List.mem_iff_getElem.1 hq
    have : xs[i].f0 ≠ c := by
      intro e
      rcases Nat.lt_or_ge i p with g | g
      · have := p3 i hi g
        omega
      · by_cases e2 : i = p
        · subst e2
          exact hp ⟨hi, e⟩
        · have g3 := hr p i (by omega) hi
          have g4 := p4 p (by omega) (Nat.le_refl _)
          omega
    simpa using this
theorem less_at {xs : List S28} {c : Int} {p : Nat} (hr : ∀ (i j : Nat) (hi : i < j) (hj : j < xs.length), xs[i].f0 < xs[j].f0) (p2 : p ≤ xs.length) (p3 : ∀ (m : Nat) (hm : m < xs.length), m < p → xs[m].f0 < c) (p4 : ∀ (m : Nat) (hm : m < xs.length), p ≤ m → c ≤ xs[m].f0) :
    p ≤ (xs.filter (fun q => decide (q.f0 ≠ c))).length ∧ (∀ (m : Nat) (hm : m < (xs.filter (fun q => decide (q.f0 ≠ c))).length), m < p → (xs.filter (fun q => decide (q.f0 ≠ c)))[m].f0 < c) ∧ (∀ (h : p < (xs.filter (fun q => decide (q.f0 ≠ c))).length), c ≤ (xs.filter (fun q => decide (q.f0 ≠ c)))[p].f0) := by
  obtain ⟨f1, f2⟩ := put_place hr p2 p3 p4
  by_cases hp : ∃ h : p < xs.length, xs[p].f0 = c
  · obtain ⟨g1, g2⟩ := f1 hp.1 hp.2
    have hb := hp.1
    rw [g2]
    have t1 : (xs.take p).length = p := by rw [List.length_take]; omega
    refine ⟨by rw [List.length_append]; omega, fun m hm hmp => ?_, fun h => ?_⟩
    · rw [List.getElem_append_left (by omega), List.getElem_take]
      exact p3 m (by omega) hmp
    · rw [List.length_append, List.length_drop, t1] at h
      rw [List.getElem_append_right (by omega)]
      simp only [t1, Nat.sub_self, List.getElem_drop]
      exact p4 _ (by omega) (by omega)
  · rw [f2 hp]
    exact ⟨p2, p3, fun h => p4 p h (Nat.le_refl _)⟩
theorem spec_PutPair_eq {k : Nat} (a : Int) (xs : List S28) (c g : Int) (hk : 200 ≤ k) (hp : ∀ (_ : fontF a xs = 0) (_ : isCh c = true), ∃ p : Nat, p ≤ xs.length ∧ (∀ (m : Nat) (hm : m < xs.length), m < p → xs[m].f0 < c) ∧ (∀ (m : Nat) (hm : m < xs.length), p ≤ m → c ≤ xs[m].f0)) : spec_PutPair.f k a xs c g = some (putF a xs c g) := by
  unfold spec_PutPair.f putF spec_l2Less.f
  rw [spec_l2Fault_eq _ _ (by omega)]
  simp only [Option.bind_some, spec_l2Pair_eq, decide_eq_true_eq]
  by_cases h : fontF a xs = 0
  · obtain ⟨hl, ha, hcs, hr⟩ := font_rises h
    have e := less_loop (a := a) (c := c) hl xs.length k 0 [] (by omega) (Nat.zero_le _) (by omega) (Nat.zero_le _)
    rw [List.drop_zero, List.nil_append] at e
    have e' : spec_l2Less.l0 k c [] 0 a xs = some (xs.filter (fun q => decide (q.f0 ≠ c))) := e
    rw [if_pos h, if_pos h]
    by_cases h2 : isCh c = true ∧ 0 ≤ g ∧ g ≤ 255
    · rw [if_pos h2, if_pos h2, e']
      simp only [Option.bind_some]
      by_cases h3 : 20 ≤ (xs.filter (fun q => decide (q.f0 ≠ c))).length
      · rw [if_pos (by omega), if_pos h3]
      · rw [if_neg (by omega), if_neg h3]
        obtain ⟨p, p2, p3, p4⟩ := hp h h2.1
        obtain ⟨q1, q2, q3⟩ := less_at hr p2 p3 p4
        obtain ⟨w1, w2⟩ := while_at q1 q2 q3
        rw [w1, w2]
        exact put_loop (by omega) q1 q2 q3 p k 0 (by omega) (Nat.zero_le _) (by omega)
    · rw [if_neg h2, if_neg h2]
  · rw [if_neg h, if_neg h]
theorem impl_PutPair_eq {k : Nat} (a : Int) (xs : List S28) (c g : Int) (hk : 200 ≤ k) : impl_PutPair.f k a xs c g = some (putF a xs c g) := by
  unfold impl_PutPair.f putF
  rw [impl_FontFault_eq _ _ (by omega)]
  simp only [Option.bind_some, impl_Pair_ok_eq, impl_unless_eq, decide_eq_true_eq]
  rw [impl_first2 (by omega)]
  simp only [Option.bind_some]
  by_cases h : fontF a xs = 0
  · obtain ⟨hl, ha, hcs, hr⟩ := font_rises h
    rw [if_pos h, if_pos h]
    by_cases h2 : isCh c = true ∧ 0 ≤ g ∧ g ≤ 255
    · rw [if_pos h2, if_pos h2, if_pos rfl]
      obtain ⟨p, p1, p2, p3, p4⟩ := place_eq h c h2.1 (k := k) (by omega)
      obtain ⟨q1, q2, q3⟩ := less_at hr p2 p3 p4
      obtain ⟨w1, w2⟩ := while_at q1 q2 q3
      obtain ⟨f1, f2⟩ := put_place hr p2 p3 p4
      rw [p1, w1, w2]
      simp only [Option.bind_some, impl_Pair_49.f, List.nil_append, List.length_nil, decide_eq_true_eq]
      rw [if_pos (by omega)]
      simp only [Option.bind_some, Int.toNat_natCast]
      by_cases hp : ∃ h : p < xs.length, xs[p].f0 = c
      · obtain ⟨g1, g2⟩ := f1 hp.1 hp.2
        have hb := hp.1
        have t1 : (xs.take p).length = p := by rw [List.length_take]; omega
        rw [if_pos hp, if_pos (by omega), if_pos (by omega), if_neg (by omega), g2, List.take_left' t1, List.drop_left' t1, List.set_eq_take_append_cons_drop, if_pos hb]
        simp
      · have g2 := f2 hp
        rw [if_neg hp, g2]
        by_cases h3 : 20 ≤ xs.length
        · rw [if_pos (by omega), if_pos h3]
        · rw [if_neg (by omega), if_neg h3]
          unfold impl_Pair_51.f
          rw [if_pos (by simp), if_pos (by omega), if_pos (by omega), if_pos (by omega)]
          simp
    · rw [if_neg h2, if_neg h2, if_neg (by decide)]
  · rw [if_neg h, if_neg h, if_neg h]
theorem putF_len (a : Int) (xs : List S28) (c g : Int) : (putF a xs c g).2.2.length ≤ xs.length + 1 := by
  unfold putF
  split
  · split
    · split
      · simp
      · have h1 := List.length_filter_le (fun q : S28 => decide (q.f0 ≠ c)) xs
        have h2 := congrArg List.length (List.takeWhile_append_dropWhile (p := fun q : S28 => decide (q.f0 < c)) (l := xs.filter (fun q => decide (q.f0 ≠ c))))
        rw [List.length_append] at h2
        simp only [List.length_append, List.length_cons, List.length_nil]
        omega
    · simp
  · simp


theorem FnExactPutPair : ∀ (x0 : S41) (x1 : S42), (((Lit.int .i64 x0.f0).wf = true) ∧ (x0.f1.length ≤ maxLen ∧ x0.f1.length * 16 ≤ 140737488351232 ∧ ∀ y ∈ x0.f1, ((Lit.int .i64 y.f0).wf = true) ∧ ((Lit.int .i64 y.f1).wf = true))) → (((Lit.int .i64 x1.f0).wf = true) ∧ ((Lit.int .i64 x1.f1).wf = true)) → ∃ k, laws_FnExactPutPair.f k x0.f0 x0.f1 x1.f0 x1.f1 = some true := by
  intro x p hx hp
  obtain ⟨_, hm, hb, hw⟩ := hx
  refine ⟨x.f1.length + 300, ?_⟩
  generalize hK : x.f1.length + 300 = K
  unfold laws_FnExactPutPair.f
  obtain ⟨t, ht, h⟩ := laws_szFont_ex (a := x.f0) (xs := x.f1) (n := 1048576) (by omega) (by omega) (by omega)
  rw [ht]
  simp only [Option.bind_some]
  rcases h with rfl | ⟨h, h0⟩
  · simp
  rw [if_neg (by omega), laws_toFont_eq (by omega) (by omega)]
  simp only [Option.bind_some, laws_toPair.f]
  have hl := putF_len x.f0 (x.f1.map toPair) p.f0 p.f1
  rw [List.length_map] at hl
  obtain ⟨ys, hy⟩ := laws_markFont_ex (k := K) (a := x.f0) (xs := x.f1.map toPair) (x := 1) (by rw [List.length_map]; omega) (by rw [List.length_map]; omega) (by omega) (by omega)
  have hs := spec_PutPair_eq (k := K) x.f0 (x.f1.map toPair) p.f0 p.f1 (by omega) (fun h1 h2 => by
    obtain ⟨q, _, q2, q3, q4⟩ := place_eq h1 p.f0 h2 (k := K) (by omega)
    exact ⟨q, q2, q3, q4⟩)
  simp only [hs, impl_PutPair_eq _ _ _ _ (show 200 ≤ K by omega), Option.bind_some]
  rw [laws_eqFontResult_eq (by omega) (by omega)]
  simp only [Option.bind_some, and_self, decide_true, if_true]
  rw [laws_eqFont_eq (by rw [List.length_map]; omega) (by rw [List.length_map]; omega)]
  simp only [Option.bind_some, and_self, decide_true, if_true, hy]
  rw [if_neg (by omega), laws_markFontResult_eq (by omega) (by omega) (by omega) (by omega)]
  simp only [Option.bind_some]
  rw [laws_heldFontResult_eq (by omega) (by omega) (by omega) (by omega)]
  simp only [Option.bind_some, if_true]
  rw [if_neg (by omega), if_neg (by omega)]

end Go.Proofs.Ytpoafgokngpglaa.Pure
