/- FnGlyphs: what CharsOf tells of a font are just the characters of that glyph, rising, and none is missing; TranslateChar's is the reference's. No condition. -/
import Derived.Test.YtomcgieedcbpbaaPFnGlyphsx
import Derived.Test.YtomcgieedcbpbaaPlain
namespace Go.Proofs.Ytomcgieedcbpbaa.Pure
open Go Go.RowKit Go.Proofs.Ytomcgieedcbpbaa.PFnGlyphs Go.Proofs.YtomcgieedcbpbaaW.PrintWords Go.Proofs.YtomcgieedcbpbaaW.PrintLast Go.Proofs.YtomcgieedcbpbaaPlain
set_option linter.unusedVariables false
set_option linter.unusedSimpArgs false

instance : DecidableEq S74 := fun a b => match a, b with
  | ⟨a0, a1⟩, ⟨b0, b1⟩ => decidable_of_iff (a0 = b0 ∧ a1 = b1) (by simp)

theorem spec_l1In_eq (x a b : Int) : spec_l1In.f x a b = some (decide (a ≤ x ∧ x ≤ b)) := by
  unfold spec_l1In.f
  split <;> (congr 1; simp_all) <;> omega

theorem impl_in_eq (x a b : Int) : impl_in.f x a b = some (decide (a ≤ x ∧ x ≤ b)) := by
  unfold impl_in.f
  split <;> (congr 1; simp_all) <;> omega

theorem spec_l1Char_eq (x : Int) : spec_l1Char.f x = some (isCh x) := by
  unfold spec_l1Char.f isCh
  simp only [spec_l1In_eq, Option.bind_some]
  by_cases h : 0 ≤ x ∧ x ≤ 55295
  · simp [h]
  · rw [if_neg (by simpa using h)]
    congr 1
    simp only [h, false_or]

theorem impl_isChar_eq (x : Int) : impl_isChar.f x = some (isCh x) := by
  unfold impl_isChar.f isCh
  simp only [impl_in_eq, Option.bind_some]
  by_cases h : 0 ≤ x ∧ x ≤ 65535
  · rw [if_pos (by simpa using h), ← decide_not]
    congr 1
    refine decide_eq_decide.2 ?_
    omega
  · rw [if_neg (by simpa using h)]
    congr 1
    symm
    rw [decide_eq_false_iff_not]
    omega

theorem impl_first2 {k : Nat} (hk : 3 ≤ k) (a b : Int) : impl_first.f k [a, b] = some (if a = 0 then b else a) := by
  obtain ⟨k, rfl⟩ : ∃ m, k = m + 3 := ⟨k - 3, by omega⟩
  have w0 : wrap64 1 = 1 := by unfold wrap64; omega
  have w1 : wrap64 2 = 2 := by unfold wrap64; omega
  by_cases h1 : a = 0
  · by_cases h2 : b = 0
    · simp [impl_first.f, impl_first.l0, rd, w0, w1, h1, h2]
    · simp [impl_first.f, impl_first.l0, rd, w0, w1, h1, h2]
  · simp [impl_first.f, impl_first.l0, rd, w0, w1, h1]

theorem impl_unless_eq (b : Bool) (x : Int) : impl_unless.f b x = some (if b = true then 0 else x) := by
  unfold impl_unless.f
  split <;> rfl


theorem rdPairb {xs : List S74} {i : Nat} (h : i < xs.length) : rd_T74 xs (i : Int) = xs[i] := rdOf_nat h

theorem spec_l2Pair_eq (a b : Int) : spec_l2Pair.f a b = some (decide (isCh a = true ∧ 0 ≤ b ∧ b ≤ 255)) := by
  unfold spec_l2Pair.f
  simp only [spec_l1In_eq, spec_l1Char_eq, Option.bind_some]
  cases isCh a <;> simp
theorem impl_Pair_ok_eq (a b : Int) : impl_Pair_ok.f a b = some (decide (isCh a = true ∧ 0 ≤ b ∧ b ≤ 255)) := by
  unfold impl_Pair_ok.f
  simp only [impl_in_eq, impl_isChar_eq, Option.bind_some]
  cases isCh a <;> simp
/-- What is wrong with the i-th pair. -/
def pairC (xs : List S74) (i : Int) : Int := if isCh (rd_T74 xs i).f0 = true ∧ 0 ≤ (rd_T74 xs i).f1 ∧ (rd_T74 xs i).f1 ≤ 255 then (if 0 < i ∧ (rd_T74 xs i).f0 ≤ (rd_T74 xs (i - 1)).f0 then 1 else 0) else 3
/-- What is wrong with a font. -/
def fontF (a : Int) (xs : List S74) : Int := if 0 ≤ a ∧ a ≤ 255 then (if xs.length ≤ 20 then codeFrom (pairC xs) xs.length 0 else 2) else 3
theorem spec_l2Fault_eq {k : Nat} (a : Int) (xs : List S74) (hk : 40 ≤ k) : spec_l2Fault.f k a xs = some (fontF a xs) := by
  unfold spec_l2Fault.f fontF
  simp only [spec_l1In_eq, Option.bind_some]
  by_cases h1 : 0 ≤ a ∧ a ≤ 255
  · by_cases h2 : xs.length ≤ 20
    · have h3 : ¬ (xs.length : Int) > 20 := by omega
      have h := code_loop (fun k i => spec_l2Fault.l0 k i a xs) (pairC xs) xs.length 0 (fun k i hk h0 hi => by
        have e1 : wrap64 (i - 1) = i - 1 := w64 (by omega)
        have e2 : wrap64 (i + 1) = i + 1 := w64 (by omega)
        have e3 : i - 1 < (xs.length : Int) := by omega
        simp only [spec_l2Fault.l0, spec_l2Pair_eq, Option.bind_some, if_pos h0, if_pos hi, e1, e2, if_pos e3]
        unfold pairC
        by_cases g1 : isCh (rd_T74 xs i).f0 = true ∧ 0 ≤ (rd_T74 xs i).f1 ∧ (rd_T74 xs i).f1 ≤ 255
        · by_cases g2 : 0 < i
          · have e4 : 0 ≤ i - 1 := by omega
            have e5 : 1 ≤ i := by omega
            by_cases g3 : (rd_T74 xs i).f0 ≤ (rd_T74 xs (i - 1)).f0 <;> simp [g1, g2, g3, e4, e5]
          · simp [g1, g2]
        · simp [g1]) (fun k hk => by simp only [spec_l2Fault.l0]; rw [if_neg (by omega)]) xs.length k 0 (by omega) (by omega) (by omega)
      simp only [h1, and_self, decide_true, if_true, if_neg h3, if_pos h2]
      exact h
    · have h3 : (xs.length : Int) > 20 := by omega
      simp only [h1, and_self, decide_true, if_true, if_pos h3, if_neg h2]
  · simp [h1]
theorem impl_FontFault_eq {k : Nat} (a : Int) (xs : List S74) (hk : 40 ≤ k) : impl_FontFault.f k a xs = some (fontF a xs) := by
  unfold impl_FontFault.f fontF
  simp only [impl_in_eq, impl_unless_eq, Option.bind_some]
  rw [impl_first2 (by omega)]
  simp only [Option.bind_some]
  by_cases h1 : 0 ≤ a ∧ a ≤ 255
  · by_cases h2 : xs.length ≤ 20
    · have h3 : (xs.length : Int) ≤ 20 := by omega
      have h := code_loop (fun k i => impl_FontFault.l0 k xs (xs.length : Int) i a xs) (pairC xs) xs.length 5 (fun k i hk h0 hi => by
        have e1 : wrap64 (i - 1) = i - 1 := w64 (by omega)
        have e2 : wrap64 (i + 1) = i + 1 := w64 (by omega)
        have e3 : i - 1 < (xs.length : Int) := by omega
        simp only [impl_FontFault.l0, impl_Pair_ok_eq, impl_unless_eq, Option.bind_some, if_pos h0, if_pos hi, e1, e2, if_pos e3]
        rw [impl_first2 (by omega)]
        unfold pairC
        by_cases g1 : isCh (rd_T74 xs i).f0 = true ∧ 0 ≤ (rd_T74 xs i).f1 ∧ (rd_T74 xs i).f1 ≤ 255
        · by_cases g2 : i = 0
          · subst g2
            simp [g1]
          · have e4 : 0 ≤ i - 1 := by omega
            have e5 : 1 ≤ i := by omega
            have e6 : 0 < i := by omega
            rw [impl_first2 (by omega)]
            by_cases g3 : (rd_T74 xs i).f0 ≤ (rd_T74 xs (i - 1)).f0
            · have g4 : ¬ (rd_T74 xs i).f0 > (rd_T74 xs (i - 1)).f0 := by omega
              simp [g1, g2, g3, g4, e4, e5, e6]
            · have g4 : (rd_T74 xs i).f0 > (rd_T74 xs (i - 1)).f0 := by omega
              simp [g1, g2, g3, g4, e4, e5]
        · by_cases g2 : i = 0
          · subst g2
            simp [g1]
          · have e4 : 0 ≤ i - 1 := by omega
            have e5 : 1 ≤ i := by omega
            rw [impl_first2 (by omega)]
            simp [g1, g2, e4, e5]) (fun k hk => by simp only [impl_FontFault.l0]; rw [if_neg (by omega)]) xs.length k 0 (by omega) (by omega) (by omega)
      simp only [h1, and_self, decide_true, if_true, h3, if_pos h2]
      exact h
    · have h3 : ¬ (xs.length : Int) ≤ 20 := by omega
      simp [h1, h2, h3]
  · simp [h1]



/-- A font without a fault: its pairs rise, and are characters. -/
theorem font_rises {a : Int} {xs : List S74} (h : fontF a xs = 0) : xs.length ≤ 20 ∧ (0 ≤ a ∧ a ≤ 255) ∧ (∀ (i : Nat) (hi : i < xs.length), isCh xs[i].f0 = true ∧ 0 ≤ xs[i].f1 ∧ xs[i].f1 ≤ 255) ∧ (∀ (i j : Nat) (hi : i < j) (hj : j < xs.length), xs[i].f0 < xs[j].f0) := by
  unfold fontF at h
  by_cases h1 : 0 ≤ a ∧ a ≤ 255
  · rw [if_pos h1] at h
    by_cases h2 : xs.length ≤ 20
    · rw [if_pos h2] at h
      have hz := codeFrom_zero (pairC xs) xs.length 0 h
      have hz' : ∀ i : Nat, (hi : i < xs.length) → (isCh xs[i].f0 = true ∧ 0 ≤ xs[i].f1 ∧ xs[i].f1 ≤ 255) ∧ (∀ h0 : 0 < i, xs[i - 1].f0 < xs[i].f0) := by
        intro i hi
        have := hz i (by omega) (by omega)
        unfold pairC at this
        rw [rdPairb hi] at this
        by_cases g1 : isCh xs[i].f0 = true ∧ 0 ≤ xs[i].f1 ∧ xs[i].f1 ≤ 255
        · rw [if_pos g1] at this
          refine ⟨g1, fun h0 => ?_⟩
          have e : ((i : Int) - 1) = ((i - 1 : Nat) : Int) := by omega
          rw [e, rdPairb (by omega)] at this
          by_cases g2 : 0 < (i : Int) ∧ xs[i].f0 ≤ xs[i - 1].f0
          · rw [if_pos g2] at this
            omega
          · omega
        · rw [if_neg g1] at this
          omega
      refine ⟨h2, h1, fun i hi => (hz' i hi).1, fun i j hij hj => ?_⟩
      obtain ⟨d, rfl⟩ : ∃ d, j = i + 1 + d := ⟨j - i - 1, by omega⟩
      induction d with
      | zero =>
        have := (hz' (i + 1) hj).2 (by omega)
        simpa using this
      | succ d ih =>
        have h3 := ih (by omega) (by omega)
        have h4 := (hz' (i + 1 + (d + 1)) hj).2 (by omega)
        have e : i + 1 + (d + 1) - 1 = i + 1 + d := by omega
        simp only [e] at h4
        omega
    · rw [if_neg h2] at h
      omega
  · rw [if_neg h1] at h
    omega
/-- Where a character's pair is, or would be. -/
theorem place_eq {k : Nat} {a : Int} {xs : List S74} (h : fontF a xs = 0) (x : Int) (hx : isCh x = true) (hk : 100 ≤ k) :
    ∃ p : Nat, impl_Font_place.f k a xs x = some ((p : Int), decide (∃ h : p < xs.length, xs[p].f0 = x)) ∧ p ≤ xs.length ∧ (∀ (m : Nat) (hm : m < xs.length), m < p → xs[m].f0 < x) ∧ (∀ (m : Nat) (hm : m < xs.length), p ≤ m → x ≤ xs[m].f0) := by
  obtain ⟨hl, ha, hc, hr⟩ := font_rises h
  rw [isCh_iff] at hx
  have hd : ∀ (i : Nat) (hi : i < xs.length), wrap64 ((rd_T74 xs (i : Int)).f0 - x) = xs[i].f0 - x := by
    intro i hi
    rw [rdPairb hi]
    have := (hc i hi).1
    rw [isCh_iff] at this
    exact w64 (by omega)
  obtain ⟨p, h1, h2, h3, h4⟩ := bs_loop (fun k i j => impl_Pair_int64.l0 k xs x (xs.length : Int) i j) (fun i => wrap64 ((rd_T74 xs i).f0 - x)) xs.length 0
    (fun k i j _ h0 hij hj => by
      simp only [impl_Pair_int64.l0, impl_Font_place_1.f, Option.bind_some]
      rw [if_pos hij, mid_eq h0 (by omega) (by omega), if_pos (by omega), if_pos (by omega), w64 (x := (i + j) / 2 + 1) (by omega)])
    (fun k i _ h0 hi => by
      simp only [impl_Pair_int64.l0, impl_Font_place_1.f, Option.bind_some]
      rw [if_neg (by omega)]
      by_cases g : i < (xs.length : Int)
      · simp only [g, h0, if_true]
      · simp only [g, if_false])
    (fun i j h0 hij hj hlt => by
      obtain ⟨i, rfl⟩ := Int.eq_ofNat_of_zero_le h0
      obtain ⟨j, rfl⟩ := Int.eq_ofNat_of_zero_le (show 0 ≤ j by omega)
      rw [hd j (by omega)] at hlt
      rw [hd i (by omega)]
      by_cases e : i = j
      · subst e; exact hlt
      · have := hr i j (by omega) (by omega)
        omega)
    xs.length k 0 (xs.length : Int) (by omega) (by omega) (by omega) (by omega) (fun m h1 h2 => by omega) (fun m h1 h2 => by omega) (by omega)
  refine ⟨p, ?_, h2, fun m hm hmp => ?_, fun m hm hpm => ?_⟩
  · unfold impl_Font_place.f impl_Pair_int64.f
    rw [h1]
    simp only [Option.bind_some]
    congr 2
    refine decide_eq_decide.2 ?_
    constructor
    · rintro ⟨g1, g2⟩
      rw [hd p g1] at g2
      exact ⟨g1, by omega⟩
    · rintro ⟨g1, g2⟩
      refine ⟨g1, ?_⟩
      rw [hd p g1]
      omega
  · have := h3 m hmp
    rw [hd m hm] at this
    omega
  · have := h4 m hpm hm
    rw [hd m hm] at this
    omega
/-- What the search finds is what the list's first pair of that character is. -/
theorem place_find {a : Int} {xs : List S74} (h : fontF a xs = 0) {x : Int} {p : Nat} (h1 : ∀ (m : Nat) (hm : m < xs.length), m < p → xs[m].f0 < x) :
    (∀ (hp : p < xs.length), xs[p].f0 = x → xs.find? (fun q => decide (q.f0 = x)) = some xs[p]) ∧ ((∀ (m : Nat) (hm : m < xs.length), p ≤ m → x ≤ xs[m].f0) → ¬ (∃ hp : p < xs.length, xs[p].f0 = x) → xs.find? (fun q => decide (q.f0 = x)) = none) := by
  obtain ⟨hl, ha, hc, hr⟩ := font_rises h
  constructor
  · intro hp e
    rw [List.find?_eq_some_iff_getElem]
    refine ⟨by simpa using e, p, hp, rfl, fun j hj => ?_⟩
    have := h1 j (by omega) hj
    simp
    omega
  · intro h2 hn
    rw [List.find?_eq_none]
    intro q hq
    obtain ⟨i, hi, rfl⟩ := List.mem_iff_getElem.1 hq
    simp only [decide_eq_true_eq]
    intro e
    rcases Nat.lt_or_ge i p with g | g
    · have := h1 i hi g
      omega
    · by_cases e2 : i = p
      · subst e2
        exact hn ⟨hi, e⟩
      · have g3 := hr p i (by omega) hi
        have g4 := h2 p (by omega) (Nat.le_refl _)
        omega



theorem filter_loop {α β : Type} (A : Nat → Int → List Int → Option β) (rdf : List α → Int → α) (p : α → Bool) (g : α → Int) (fin : List Int → β) (xs : List α)
    (hr : ∀ (xs : List α) (i : Nat) (h : i < xs.length), rdf xs (i : Int) = xs[i]) (hb : xs.length ≤ 1000)
    (hs : ∀ (k : Nat) (i : Int) (acc : List Int), 0 ≤ i → i < (xs.length : Int) → acc.length ≤ 1000 → A (k + 1) i acc = if p (rdf xs i) = true then A k (i + 1) (acc ++ [g (rdf xs i)]) else A k (i + 1) acc)
    (he : ∀ (k : Nat) (acc : List Int), A (k + 1) (xs.length : Int) acc = some (fin acc)) :
    ∀ (d k i : Nat) (acc : List Int), xs.length - i = d → i ≤ xs.length → d < k → acc.length ≤ i → A k (i : Int) acc = some (fin (acc ++ ((xs.drop i).filter p).map g)) := by
  intro d
  induction d with
  | zero =>
    intro k i acc hd hi hk ha
    obtain ⟨k, rfl⟩ : ∃ m, k = m + 1 := ⟨k - 1, by omega⟩
    obtain rfl : i = xs.length := by omega
    rw [he, List.drop_eq_nil_of_le (by omega)]
    simp
  | succ d ih =>
    intro k i acc hd hi hk ha
    obtain ⟨k, rfl⟩ : ∃ m, k = m + 1 := ⟨k - 1, by omega⟩
    have hx : i < xs.length := by omega
    have e1 : (i : Int) + 1 = ((i + 1 : Nat) : Int) := by omega
    have ef : (xs.drop i).filter p = if p xs[i] = true then xs[i] :: (xs.drop (i + 1)).filter p else (xs.drop (i + 1)).filter p := by
      rw [List.drop_eq_getElem_cons hx, List.filter_cons]
    rw [hs k i acc (by omega) (by omega) (by omega), hr xs i hx, e1, ef]
    by_cases hp : p xs[i] = true
    · rw [if_pos hp, if_pos hp, ih k (i + 1) _ (by omega) (by omega) (by omega) (by simp; omega), List.map_cons, List.append_assoc, List.singleton_append]
    · rw [if_neg hp, if_neg hp, ih k (i + 1) _ (by omega) (by omega) (by omega) (by omega)]
def charsF (a : Int) (xs : List S74) (c : Int) : Int × List Int := if fontF a xs = 0 then (if 0 ≤ c ∧ c ≤ 255 then (0, (xs.filter (fun q => decide (q.f1 = c))).map (fun q => q.f0)) else (3, [])) else (fontF a xs, [])
theorem fontF_len {a : Int} {xs : List S74} (h : fontF a xs = 0) : xs.length ≤ 20 := by
  unfold fontF at h
  split at h
  · split at h
    · assumption
    · omega
  · omega
theorem spec_CharsOf_eq {k : Nat} (a : Int) (xs : List S74) (c : Int) (hk : 100 ≤ k) : spec_CharsOf.f k a xs c = some (charsF a xs c) := by
  unfold spec_CharsOf.f charsF
  rw [spec_l2Fault_eq _ _ (by omega)]
  simp only [spec_l1In_eq, Option.bind_some]
  by_cases h : fontF a xs = 0
  · have hl := fontF_len h
    rw [if_pos h, if_pos h]
    by_cases hc : 0 ≤ c ∧ c ≤ 255
    · rw [if_pos (by simpa using hc), if_pos hc]
      have := filter_loop (fun k i acc => spec_CharsOf.l0 k c i a xs 0 acc) rd_T74 (fun q => decide (q.f1 = c)) (fun q => q.f0) (fun l => ((0 : Int), l)) xs (fun xs i h => rdPairb h) (by omega) (fun k i acc h0 hi ha => by
        simp only [spec_CharsOf.l0, if_pos h0, if_pos hi, w64 (x := i + 1) (by omega), decide_eq_true_eq]
        rw [if_pos (show acc.length < 17592186044416 by omega)]) (fun k acc => by simp only [spec_CharsOf.l0]; rw [if_neg (by omega)]) xs.length k 0 [] (by omega) (Nat.zero_le _) (by omega) (Nat.zero_le _)
      rw [List.drop_zero] at this
      exact this
    · rw [if_neg (by simpa using hc), if_neg hc]
  · rw [if_neg h, if_neg h]
theorem impl_CharsOf_eq {k : Nat} (a : Int) (xs : List S74) (c : Int) (hk : 100 ≤ k) : impl_CharsOf.f k a xs c = some (charsF a xs c) := by
  unfold impl_CharsOf.f charsF
  rw [impl_FontFault_eq _ _ (by omega)]
  simp only [impl_in_eq, impl_unless_eq, Option.bind_some]
  rw [impl_first2 (by omega)]
  simp only [Option.bind_some]
  by_cases h : fontF a xs = 0
  · have hl := fontF_len h
    rw [if_pos h, if_pos h]
    by_cases hc : 0 ≤ c ∧ c ≤ 255
    · rw [if_pos (by simpa using hc), if_pos hc]
      have := filter_loop (fun k i acc => impl_CharsOf.l0 k c acc xs (xs.length : Int) i) rd_T74 (fun q => decide (q.f1 = c)) (fun q => q.f0) (fun l => ((0 : Int), l)) xs (fun xs i h => rdPairb h) (by omega) (fun k i acc h0 hi ha => by
        simp only [impl_CharsOf.l0, if_pos h0, if_pos hi, w64 (x := i + 1) (by omega), decide_eq_true_eq]
        rw [if_pos (show acc.length < 17592186044416 by omega)]) (fun k acc => by simp only [impl_CharsOf.l0]; rw [if_neg (by omega)]) xs.length k 0 [] (by omega) (Nat.zero_le _) (by omega) (Nat.zero_le _)
      rw [List.drop_zero] at this
      exact this
    · simp [hc]
  · simp [h]
theorem charsF_len (a : Int) (xs : List S74) (c : Int) : (charsF a xs c).2.length ≤ xs.length := by
  unfold charsF
  split
  · split
    · simp only [List.length_map]
      exact List.length_filter_le _ _
    · simp
  · simp


theorem translated_eq (k : Nat) (t x : Int) : impl_translated.f (k + 1) t x = spec_l2Translate.f (k + 1) t x := by
  unfold impl_translated.f spec_l2Translate.f
  simp only [impl_in_eq, spec_l1In_eq, Option.bind_some, impl_translated.j0, spec_l2Translate.j0]
theorem translate_some (k : Nat) (t x : Int) : ∃ r, spec_l2Translate.f (k + 1) t x = some r := by
  unfold spec_l2Translate.f
  simp only [spec_l1In_eq, Option.bind_some, spec_l2Translate.j0]
  repeat' split
  all_goals exact ⟨_, rfl⟩
theorem translate_same (k : Nat) (t x : Int) : ∃ r : Int × Int, spec_TranslateChar.f (k + 1) t x = some r ∧ impl_TranslateChar.f (k + 1) t x = some r := by
  obtain ⟨v, hv⟩ := translate_some k t x
  unfold spec_TranslateChar.f impl_TranslateChar.f spec_l2Table.f
  simp only [spec_l1In_eq, impl_in_eq, spec_l1Char_eq, impl_isChar_eq, Option.bind_some]
  by_cases h : 1 ≤ t ∧ t ≤ 3
  · simp only [h, and_self, decide_true, if_true]
    by_cases h2 : isCh x = true
    · rw [if_pos h2, if_pos h2, translated_eq, hv]
      exact ⟨_, rfl, rfl⟩
    · rw [if_neg h2, if_neg h2]
      exact ⟨_, rfl, rfl⟩
  · simp only [h, decide_false, Bool.false_eq_true, if_false]
    exact ⟨_, rfl, rfl⟩

/-- Bytes, as the drawing functions read them. -/
def Bs (xs : List Int) : Prop := xs.length ≤ 2000000 ∧ ∀ y ∈ xs, 0 ≤ y ∧ y ≤ 255
theorem tmod_lt' {x a : Int} (h0 : 0 ≤ x) (ha : 1 ≤ a) : 0 ≤ Int.tmod x a ∧ Int.tmod x a < a := by
  rw [Int.tmod_eq_emod_of_nonneg h0]
  exact ⟨Int.emod_nonneg _ (by omega), Int.emod_lt_of_pos _ (by omega)⟩
theorem rd_byte {xs : List Int} (hb : Bs xs) {i : Int} (h0 : 0 ≤ i) (hi : i < (xs.length : Int)) : 0 ≤ rd xs i ∧ rd xs i ≤ 255 := by
  obtain ⟨n, rfl⟩ := Int.eq_ofNat_of_zero_le h0
  rw [rd_nat (show n < xs.length by omega)]
  exact hb.2 _ (List.getElem_mem _)
theorem next_some {xs : List Int} (hb : Bs xs) {s : Int} (h0 : 0 ≤ s) (h1 : s ≤ 100000) (a : Int) : ∃ v : Int, spec_l1Next.f xs s a = some (v, s + 1) ∧ (1 ≤ a → 0 ≤ v ∧ v < a) := by
  have e1 : wrap64 (s + 1) = s + 1 := w64 (by omega)
  have e2 : wrap64 (s + 1 - 1) = s := by rw [w64 (by omega)]; omega
  unfold spec_l1Next.f
  simp only [e1, e2]
  by_cases g1 : a < 1
  · rw [if_pos g1]
    exact ⟨0, rfl, fun h => by omega⟩
  rw [if_neg g1]
  by_cases g2 : (xs.length : Int) = 0
  · rw [if_pos g2, if_neg (by omega), w64 (by omega)]
    exact ⟨_, rfl, fun h => tmod_lt' (by omega) h⟩
  rw [if_neg g2]
  have hl := hb.1
  obtain ⟨m0, m1⟩ := tmod_lt' (x := s) (a := (xs.length : Int)) h0 (by omega)
  rw [if_pos m0, if_pos m1]
  have hd : Int.tdiv s (xs.length : Int) = s / (xs.length : Int) := Int.tdiv_eq_ediv_of_nonneg h0
  have hq0 : 0 ≤ s / (xs.length : Int) := Int.ediv_nonneg h0 (by omega)
  have hq1 : s / (xs.length : Int) ≤ s := Int.ediv_le_self _ h0
  obtain ⟨b0, b1⟩ := rd_byte hb m0 m1
  have e3 : wrap64 (Int.tdiv s (xs.length : Int)) = s / (xs.length : Int) := by rw [hd]; exact w64 (by omega)
  have e4 : wrap64 (s / (xs.length : Int) * 37) = s / (xs.length : Int) * 37 := w64 (by omega)
  have e5 : wrap64 (rd xs (Int.tmod s (xs.length : Int))) = rd xs (Int.tmod s (xs.length : Int)) := w64 (by omega)
  have e6 : wrap64 (rd xs (Int.tmod s (xs.length : Int)) + s / (xs.length : Int) * 37) = rd xs (Int.tmod s (xs.length : Int)) + s / (xs.length : Int) * 37 := w64 (by omega)
  simp only [e1, e2, e3, e4, e5, e6]
  by_cases g3 : a > 200
  · rw [if_pos g3]
    obtain ⟨n0, n1⟩ := tmod_lt' (x := s + 1) (a := (xs.length : Int)) (by omega) (by omega)
    rw [if_pos n0, if_pos n1, if_neg (by omega)]
    obtain ⟨c0, c1⟩ := rd_byte hb n0 n1
    have e7 : wrap64 (rd xs (Int.tmod (s + 1) (xs.length : Int))) = rd xs (Int.tmod (s + 1) (xs.length : Int)) := w64 (by omega)
    have e8 : wrap64 (rd xs (Int.tmod (s + 1) (xs.length : Int)) * 13) = rd xs (Int.tmod (s + 1) (xs.length : Int)) * 13 := w64 (by omega)
    have e9 : wrap64 ((rd xs (Int.tmod s (xs.length : Int)) + s / (xs.length : Int) * 37) * 251) = (rd xs (Int.tmod s (xs.length : Int)) + s / (xs.length : Int) * 37) * 251 := w64 (by omega)
    simp only [e7, e8, e9]
    refine ⟨_, rfl, fun h => tmod_lt' ?_ h⟩
    rw [w64 (x := (rd xs (Int.tmod s (xs.length : Int)) + s / (xs.length : Int) * 37) * 251 + rd xs (Int.tmod (s + 1) (xs.length : Int)) * 13) (by omega), w64 (by omega)]
    omega
  · rw [if_neg g3, if_neg (by omega)]
    exact ⟨_, rfl, fun h => tmod_lt' (by omega) h⟩
theorem pick_some {xs : List Int} (hb : Bs xs) {s : Int} (h0 : 0 ≤ s) (h1 : s ≤ 100000) (l : List Int) (hl : 1 ≤ l.length) : ∃ v : Int, spec_l1Pick.f xs s l = some (v, s + 1) := by
  obtain ⟨v, hv, hr⟩ := next_some hb h0 h1 (l.length : Int)
  obtain ⟨r0, r1⟩ := hr (by omega)
  unfold spec_l1Pick.f
  rw [hv]
  simp only [Option.bind_some]
  rw [if_pos r0, if_pos r1]
  exact ⟨_, rfl⟩
theorem draw_loop {xs : List Int} (hb : Bs xs) : ∀ (d k : Nat) (x s a : Int) (l : List S74), d < k → 0 ≤ s → s + 2 * d ≤ 50000 → l.length + d ≤ 100 → ∃ (l' : List S74), spec_l2Draw.l0 k x (d : Int) xs s a l = some (a, l', s + 2 * d) ∧ l'.length ≤ l.length + d := by
  intro d
  induction d with
  | zero =>
    intro k x s a l hk h0 hs hl
    obtain ⟨k, rfl⟩ : ∃ m, k = m + 1 := ⟨k - 1, by omega⟩
    simp only [spec_l2Draw.l0]
    rw [if_neg (by omega)]
    exact ⟨l, by simp, by omega⟩
  | succ d ih =>
    intro k x s a l hk h0 hs hl
    obtain ⟨k, rfl⟩ : ∃ m, k = m + 1 := ⟨k - 1, by omega⟩
    obtain ⟨v, hv, _⟩ := next_some hb h0 (by omega) 9
    obtain ⟨u, hu, _⟩ := next_some hb (s := s + 1) (by omega) (by omega) 5
    simp only [spec_l2Draw.l0]
    rw [if_pos (by omega), hv]
    simp only [Option.bind_some]
    rw [hu]
    simp only [Option.bind_some]
    rw [if_pos (by omega), w64 (x := ((d + 1 : Nat) : Int) - 1) (by omega)]
    have e : ((d + 1 : Nat) : Int) - 1 = (d : Int) := by omega
    rw [e]
    obtain ⟨l', h1, h2⟩ := ih k (wrap64 (wrap64 (x + 1) + v)) (s + 1 + 1) a (l ++ [(⟨wrap64 (wrap64 (x + 1) + v), u⟩ : S74)]) (by omega) (by omega) (by omega) (by simp; omega)
    refine ⟨l', ?_, by simp at h2; omega⟩
    rw [h1]
    congr 3
    omega
theorem bent_loop {xs : List Int} : ∀ (d k : Nat) (x s a : Int) (l : List S74), d < k → 0 ≤ x → x + d = 20 → l.length + d ≤ 100 → ∃ (l' : List S74), spec_l2Bent.l0 k x xs s a l = some (a, l', s) := by
  intro d
  induction d with
  | zero =>
    intro k x s a l hk h0 hx hl
    obtain ⟨k, rfl⟩ : ∃ m, k = m + 1 := ⟨k - 1, by omega⟩
    simp only [spec_l2Bent.l0]
    rw [if_neg (by omega)]
    exact ⟨l, rfl⟩
  | succ d ih =>
    intro k x s a l hk h0 hx hl
    obtain ⟨k, rfl⟩ : ∃ m, k = m + 1 := ⟨k - 1, by omega⟩
    simp only [spec_l2Bent.l0]
    rw [if_pos (by omega), if_pos (by omega), w64 (x := x + 1) (by omega)]
    exact ih k (x + 1) s a _ (by omega) (by omega) (by omega) (by simp; omega)
theorem draw_some {k : Nat} (hk : 100 ≤ k) {xs : List Int} (hb : Bs xs) : ∃ (a : Int) (l : List S74) (s : Int), spec_l2Draw.f k xs 0 = some (a, l, s) ∧ l.length ≤ 10 ∧ 0 ≤ s ∧ s ≤ 100 := by
  unfold spec_l2Draw.f
  obtain ⟨v, hv, _⟩ := next_some hb (s := 0) (by omega) (by omega) 3
  rw [hv]
  simp only [Option.bind_some, Int.zero_add]
  obtain ⟨u, hu, hr⟩ := next_some hb (s := 1) (by omega) (by omega) 8
  rw [hu]
  simp only [Option.bind_some]
  obtain ⟨r0, r1⟩ := hr (by omega)
  obtain ⟨d, rfl⟩ := Int.eq_ofNat_of_zero_le r0
  obtain ⟨l, h1, h2⟩ := draw_loop hb d k 60 (1 + 1) v [] (by omega) (by omega) (by omega) (by simp; omega)
  exact ⟨v, l, _, h1, by simp at h2; omega, by omega, by omega⟩
theorem bent_some {k : Nat} (hk : 100 ≤ k) {xs : List Int} (hb : Bs xs) : ∃ (a : Int) (l : List S74) (s : Int), spec_l2Bent.f k xs 0 = some (a, l, s) ∧ 0 ≤ s ∧ s ≤ 200 := by
  unfold spec_l2Bent.f
  obtain ⟨a, l, s, h, hl, h0, h1⟩ := draw_some hk hb
  rw [h]
  simp only [Option.bind_some]
  obtain ⟨v, hv, _⟩ := next_some hb h0 (by omega) 14
  rw [hv]
  simp only [Option.bind_some]
  by_cases g0 : v = 0
  · rw [if_pos g0]
    obtain ⟨u, hu⟩ := pick_some hb (s := s + 1) (by omega) (by omega) [(-1), 255, 256] (by simp)
    rw [hu]
    exact ⟨_, _, _, rfl, by simp only []; omega, by simp only []; omega⟩
  rw [if_neg g0]
  by_cases g1 : v = 1
  · rw [if_pos g1]
    obtain ⟨u, hu⟩ := pick_some hb (s := s + 1) (by omega) (by omega) [61, 55296, 9999] (by simp)
    rw [hu]
    simp only [Option.bind_some]
    obtain ⟨t, ht⟩ := pick_some hb (s := s + 1 + 1) (by omega) (by omega) [0, 256] (by simp)
    rw [ht]
    simp only [Option.bind_some]
    rw [if_pos (by omega)]
    exact ⟨_, _, _, rfl, by omega, by omega⟩
  rw [if_neg g1]
  by_cases g2 : v = 2
  · rw [if_pos g2, if_pos (by omega)]
    exact ⟨_, _, _, rfl, by omega, by omega⟩
  rw [if_neg g2]
  by_cases g3 : v = 3
  · rw [if_pos g3]
    obtain ⟨l', h'⟩ := bent_loop (xs := xs) 20 k 0 (s + 1) a [] (by omega) (by omega) (by omega) (by simp)
    rw [h']
    exact ⟨_, _, _, rfl, by omega, by omega⟩
  rw [if_neg g3]
  exact ⟨_, _, _, rfl, by omega, by omega⟩
theorem drawChars_some {k : Nat} (hk : 100 ≤ k) {xs : List Int} (hb : Bs xs) : ∃ (a : Int) (l : List S74) (c : Int), spec_DrawCharsOf.f k xs = some (a, l, c) := by
  unfold spec_DrawCharsOf.f spec_l1Source.f
  simp only [Option.bind_some]
  obtain ⟨a, l, s, h, h0, h1⟩ := bent_some hk hb
  rw [h]
  simp only [Option.bind_some]
  obtain ⟨v, hv, _⟩ := next_some hb h0 (by omega) 5
  rw [hv]
  simp only [Option.bind_some]
  obtain ⟨u, hu⟩ := pick_some hb (s := s + 1) (by omega) (by omega) [v, 255, 256, (-1)] (by simp)
  rw [hu]
  exact ⟨_, _, _, rfl⟩
theorem drawTr_some {xs : List Int} (hb : Bs xs) : ∃ (a c : Int), spec_DrawTranslateChar.f xs = some (a, c) := by
  unfold spec_DrawTranslateChar.f spec_l1Source.f
  simp only [Option.bind_some]
  obtain ⟨v, hv⟩ := pick_some hb (s := 0) (by omega) (by omega) [1, 2, 3, 0, 4] (by simp)
  rw [hv]
  simp only [Option.bind_some]
  obtain ⟨u, hu⟩ := pick_some hb (s := 0 + 1) (by omega) (by omega) [32, 33, 96, 97, 122, 123, 126, 127, 228, 55296] (by simp)
  rw [hu]
  exact ⟨_, _, rfl⟩

theorem lwNums_self {k : Nat} {xs : List Int} (hb : xs.length ≤ 4611686018427387904) (hk : xs.length < k) : laws_lwNums.f k xs xs = some true := by
  have loop : ∀ (d k i : Nat), xs.length - i = d → i ≤ xs.length → d < k → laws_lwNums.l0 k xs xs (i : Int) = some true := by
    intro d
    induction d with
    | zero =>
      intro k i hd hi hk
      obtain ⟨k, rfl⟩ : ∃ m, k = m + 1 := ⟨k - 1, by omega⟩
      simp only [laws_lwNums.l0]
      rw [if_neg (by omega)]
    | succ d ih =>
      intro k i hd hi hk
      obtain ⟨k, rfl⟩ : ∃ m, k = m + 1 := ⟨k - 1, by omega⟩
      simp only [laws_lwNums.l0]
      rw [if_pos (by omega), if_pos (by omega), if_pos (by omega), w64n (by omega), if_pos trivial]
      exact ih k (i + 1) (by omega) (by omega) (by omega)
  unfold laws_lwNums.f
  rw [if_pos rfl]
  exact loop xs.length k 0 (by omega) (Nat.zero_le _) hk
/-- GlyphOf of one of the font's own characters. -/
theorem glyph_own {k : Nat} {a : Int} {xs : List S74} (h : fontF a xs = 0) {q : S74} (hq : q ∈ xs) (hk : 200 ≤ k) : impl_GlyphOf.f k a xs q.f0 = some (0, q.f1) := by
  obtain ⟨hl, ha, hc, hr⟩ := font_rises h
  obtain ⟨i, hi, rfl⟩ := List.mem_iff_getElem.1 hq
  have hcc := (hc i hi).1
  obtain ⟨p, p1, p2, p3, p4⟩ := place_eq h xs[i].f0 hcc (k := k) (by omega)
  have hp : ∃ hp : p < xs.length, xs[p].f0 = xs[i].f0 := by
    rcases Nat.lt_or_ge i p with g | g
    · have := p3 i hi g
      omega
    · refine ⟨by omega, ?_⟩
      have g4 := p4 p (by omega) (Nat.le_refl _)
      by_cases e : p = i
      · subst e; rfl
      · have := hr p i (by omega) hi
        omega
  have hpi : p = i := by
    obtain ⟨hp1, hp2⟩ := hp
    rcases Nat.lt_trichotomy p i with g | g | g
    · have := hr p i g hi
      omega
    · exact g
    · have := hr i p g hp1
      omega
  subst hpi
  unfold impl_GlyphOf.f
  rw [impl_FontFault_eq _ _ (by omega)]
  simp only [Option.bind_some, impl_isChar_eq, impl_unless_eq]
  rw [impl_first2 (by omega)]
  simp only [Option.bind_some, h, hcc, if_true]
  rw [p1]
  simp only [Option.bind_some, decide_eq_true_eq]
  rw [if_pos (show ∃ h : p < xs.length, True from ⟨hi, trivial⟩), if_pos (by omega), if_pos (by omega), rdPairb hi]
theorem count_loop {c a : Int} {xs : List S74} (hl : xs.length ≤ 20) (code : Int) (ys : List Int) (R : Option Bool) (K : Nat)
    (hR : ∀ k, K ≤ k → laws_FnGlyphs.l1 k c ((xs.filter (fun q => decide (q.f1 = c))).length : Int) 0 a xs code ys = R) :
    ∀ (d k i : Nat), xs.length - i = d → i ≤ xs.length → K + d < k → laws_FnGlyphs.l0 k c (((xs.take i).filter (fun q => decide (q.f1 = c))).length : Int) (i : Int) a xs code ys = R := by
  intro d
  induction d with
  | zero =>
    intro k i hd hi hk
    obtain ⟨k, rfl⟩ : ∃ m, k = m + 1 := ⟨k - 1, by omega⟩
    simp only [laws_FnGlyphs.l0]
    rw [if_neg (by omega), List.take_of_length_le (by omega)]
    exact hR k (by omega)
  | succ d ih =>
    intro k i hd hi hk
    obtain ⟨k, rfl⟩ : ∃ m, k = m + 1 := ⟨k - 1, by omega⟩
    have hx : i < xs.length := by omega
    have h2 := ih k (i + 1) (by omega) (by omega) (by omega)
    have hcount : ((xs.take i).filter (fun q => decide (q.f1 = c))).length ≤ 20 := by
      refine Nat.le_trans (List.length_filter_le _ _) ?_
      rw [List.length_take]
      omega
    simp only [laws_FnGlyphs.l0]
    rw [if_pos (by omega), if_pos (by omega), rdPairb hx, w64n (n := i) (by omega), w64n (n := ((xs.take i).filter (fun q => decide (q.f1 = c))).length) (by omega)]
    rw [List.take_succ_eq_append_getElem hx, List.filter_append] at h2
    by_cases g : xs[i].f1 = c
    · rw [if_pos g]
      have e : List.filter (fun q : S74 => decide (q.f1 = c)) [xs[i]] = [xs[i]] := by simp [g]
      rw [e, List.length_append, List.length_singleton] at h2
      exact h2
    · rw [if_neg g]
      have e : List.filter (fun q : S74 => decide (q.f1 = c)) [xs[i]] = [] := by simp [g]
      rw [e, List.append_nil] at h2
      exact h2
theorem look_loop {c a : Int} {xs : List S74} (h : fontF a xs = 0) (hc : 0 ≤ c ∧ c ≤ 255) (ys : List Int) (hys : ys = (xs.filter (fun q => decide (q.f1 = c))).map (fun q => q.f0)) :
    ∀ (d k i : Nat), ys.length - i = d → i ≤ ys.length → 300 + d < k → laws_FnGlyphs.l1 k c ((xs.filter (fun q => decide (q.f1 = c))).length : Int) (i : Int) a xs 0 ys = some true := by
  obtain ⟨hl, ha, hcs, hr⟩ := font_rises h
  have hfl : (xs.filter (fun q => decide (q.f1 = c))).length ≤ 20 := Nat.le_trans (List.length_filter_le _ _) hl
  have hyl : ys.length = (xs.filter (fun q => decide (q.f1 = c))).length := by rw [hys, List.length_map]
  have hpw : (xs.filter (fun q => decide (q.f1 = c))).Pairwise (fun x y => x.f0 < y.f0) := by
    refine List.Pairwise.filter _ ?_
    rw [List.pairwise_iff_getElem]
    intro i j hi hj hij
    exact hr i j hij hj
  intro d
  induction d with
  | zero =>
    intro k i hd hi hk
    obtain ⟨k, rfl⟩ : ∃ m, k = m + 1 := ⟨k - 1, by omega⟩
    simp only [laws_FnGlyphs.l1]
    rw [if_neg (by omega), if_pos (by omega), impl_FontFault_eq _ _ (by omega)]
    simp only [Option.bind_some]
    rw [if_pos h, spec_CharsOf_eq _ _ _ (by omega)]
    simp only [Option.bind_some]
    have e : (charsF a xs c).2 = ys := by
      unfold charsF
      rw [if_pos h, if_pos hc, hys]
    rw [e, lwNums_self (by omega) (by omega)]
    rfl
  | succ d ih =>
    intro k i hd hi hk
    obtain ⟨k, rfl⟩ : ∃ m, k = m + 1 := ⟨k - 1, by omega⟩
    have hx : i < ys.length := by omega
    have hx' : i < (xs.filter (fun q => decide (q.f1 = c))).length := by omega
    have hmem := List.mem_filter.1 (List.getElem_mem hx')
    have ey : ys[i] = ((xs.filter (fun q => decide (q.f1 = c)))[i]).f0 := by
      subst hys
      rw [List.getElem_map]
    simp only [laws_FnGlyphs.l1]
    rw [if_pos (by omega), if_pos (by omega), rd_nat hx, ey, glyph_own h hmem.1 (by omega)]
    simp only [Option.bind_some]
    rw [if_pos (by simpa using hmem.2), w64n (by omega), ih k (i + 1) (by omega) (by omega) (by omega)]
    by_cases g : (i : Int) > 0
    · have e1 : wrap64 ((i : Int) - 1) = ((i - 1 : Nat) : Int) := by rw [w64 (by omega)]; omega
      rw [if_pos g, e1, if_pos (by omega), if_pos (by omega), rd_nat (show i - 1 < ys.length by omega)]
      have ey2 : ys[i - 1] = ((xs.filter (fun q => decide (q.f1 = c)))[i - 1]'(by omega)).f0 := by
        subst hys
        rw [List.getElem_map]
      have := (List.pairwise_iff_getElem.1 hpw) (i - 1) i (by omega) hx' (by omega)
      rw [ey2, if_neg (by omega)]
    · rw [if_neg g]
theorem FnGlyphs : laws_FnGlyphs.Pure := by
  intro xs hm hb hw
  refine ⟨1000, ?_⟩
  unfold laws_FnGlyphs.f laws_lwBig.f
  simp only [Option.bind_some, decide_eq_true_eq]
  by_cases hbig : (xs.length : Int) > 1048576
  · rw [if_pos hbig]
  rw [if_neg hbig]
  have hB : Bs xs := ⟨by omega, fun y hy => wf_u8 (hw y hy)⟩
  obtain ⟨a, l, c, h1⟩ := drawChars_some (k := 1000) (by omega) hB
  obtain ⟨t, x, h2⟩ := drawTr_some hB
  obtain ⟨r, r1, r2⟩ := translate_same 999 t x
  rw [h1]
  simp only [Option.bind_some]
  rw [impl_CharsOf_eq _ _ _ (by omega)]
  simp only [Option.bind_some]
  rw [h2]
  simp only [Option.bind_some]
  rw [r2, r1]
  simp only [Option.bind_some, if_true]
  by_cases hz : (charsF a l c).1 = 0
  · rw [if_pos hz]
    have hf : fontF a l = 0 ∧ (0 ≤ c ∧ c ≤ 255) := by
      unfold charsF at hz
      split at hz
      · rename_i g
        split at hz
        · rename_i g2
          exact ⟨g, g2⟩
        · simp at hz
      · rename_i g
        exact absurd hz g
    have he : charsF a l c = (0, (l.filter (fun q => decide (q.f1 = c))).map (fun q => q.f0)) := by
      unfold charsF
      rw [if_pos hf.1, if_pos hf.2]
    rw [he]
    have hl := (font_rises hf.1).1
    have hfl : (l.filter (fun q => decide (q.f1 = c))).length ≤ 20 := Nat.le_trans (List.length_filter_le _ _) hl
    have := count_loop (c := c) (a := a) hl 0 ((l.filter (fun q => decide (q.f1 = c))).map (fun q => q.f0)) (some true) 400 (fun k hk => look_loop hf.1 hf.2 _ rfl _ k 0 rfl (Nat.zero_le _) (by simp; omega)) l.length 1000 0 (by omega) (Nat.zero_le _) (by omega)
    exact this
  · rw [if_neg hz, spec_CharsOf_eq _ _ _ (by omega)]
    simp

end Go.Proofs.Ytomcgieedcbpbaa.Pure
