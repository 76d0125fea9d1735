/- FnFonts: a pair that was put tells its glyph, and one that was dropped the fallback; all others tell what they told. No condition. -/
import Derived.Test.YtpoafgokngpglaaPFnFontsx
import Derived.Test.YtpoafgokngpglaaQcPlain
namespace Go.Proofs.Ytpoafgokngpglaa.Pure
open Go Go.RowKit Go.Proofs.Ytpoafgokngpglaa.PFnFonts Go.Proofs.YtpoafgokngpglaaW.PrintWords Go.Proofs.YtpoafgokngpglaaW.PrintLast Go.Proofs.YtpoafgokngpglaaPlain
set_option linter.unusedVariables false
set_option linter.unusedSimpArgs false

instance : DecidableEq S28 := fun a b => match a, b with
  | ⟨a0, a1⟩, ⟨b0, b1⟩ => decidable_of_iff (a0 = b0 ∧ a1 = b1) (by simp)

theorem spec_l1In_eq (x a b : Int) : spec_l1In.f x a b = some (decide (a ≤ x ∧ x ≤ b)) := by
  unfold spec_l1In.f
  split <;> (congr 1; simp_all) <;> omega

theorem impl_in_eq (x a b : Int) : impl_in.f x a b = some (decide (a ≤ x ∧ x ≤ b)) := by
  unfold impl_in.f
  split <;> (congr 1; simp_all) <;> omega

theorem spec_l1Char_eq (x : Int) : spec_l1Char.f x = some (isCh x) := by
  unfold spec_l1Char.f isCh
  simp only [spec_l1In_eq, Option.bind_some]
  by_cases h : 0 ≤ x ∧ x ≤ 55295
  · simp [h]
  · rw [if_neg (by simpa using h)]
    congr 1
    simp only [h, false_or]

theorem impl_isChar_eq (x : Int) : impl_isChar.f x = some (isCh x) := by
  unfold impl_isChar.f isCh
  simp only [impl_in_eq, Option.bind_some]
  by_cases h : 0 ≤ x ∧ x ≤ 65535
  · rw [if_pos (by simpa using h), ← decide_not]
    congr 1
    refine decide_eq_decide.2 ?_
    omega
  · rw [if_neg (by simpa using h)]
    congr 1
    symm
    rw [decide_eq_false_iff_not]
    omega

theorem impl_first2 {k : Nat} (hk : 3 ≤ k) (a b : Int) : impl_first.f k [a, b] = some (if a = 0 then b else a) := by
  obtain ⟨k, rfl⟩ : ∃ m, k = m + 3 := ⟨k - 3, by omega⟩
  have w0 : wrap64 1 = 1 := by unfold wrap64; omega
  have w1 : wrap64 2 = 2 := by unfold wrap64; omega
  by_cases h1 : a = 0
  · by_cases h2 : b = 0
    · simp [impl_first.f, impl_first.l0, rd, w0, w1, h1, h2]
    · simp [impl_first.f, impl_first.l0, rd, w0, w1, h1, h2]
  · simp [impl_first.f, impl_first.l0, rd, w0, w1, h1]

theorem impl_unless_eq (b : Bool) (x : Int) : impl_unless.f b x = some (if b = true then 0 else x) := by
  unfold impl_unless.f
  split <;> rfl


theorem rdPairb {xs : List S28} {i : Nat} (h : i < xs.length) : rd_T28 xs (i : Int) = xs[i] := rdOf_nat h

theorem spec_l2Pair_eq (a b : Int) : spec_l2Pair.f a b = some (decide (isCh a = true ∧ 0 ≤ b ∧ b ≤ 255)) := by
  unfold spec_l2Pair.f
  simp only [spec_l1In_eq, spec_l1Char_eq, Option.bind_some]
  cases isCh a <;> simp
theorem impl_Pair_ok_eq (a b : Int) : impl_Pair_ok.f a b = some (decide (isCh a = true ∧ 0 ≤ b ∧ b ≤ 255)) := by
  unfold impl_Pair_ok.f
  simp only [impl_in_eq, impl_isChar_eq, Option.bind_some]
  cases isCh a <;> simp
/-- What is wrong with the i-th pair. -/
def pairC (xs : List S28) (i : Int) : Int := if isCh (rd_T28 xs i).f0 = true ∧ 0 ≤ (rd_T28 xs i).f1 ∧ (rd_T28 xs i).f1 ≤ 255 then (if 0 < i ∧ (rd_T28 xs i).f0 ≤ (rd_T28 xs (i - 1)).f0 then 1 else 0) else 3
/-- What is wrong with a font. -/
def fontF (a : Int) (xs : List S28) : Int := if 0 ≤ a ∧ a ≤ 255 then (if xs.length ≤ 20 then codeFrom (pairC xs) xs.length 0 else 2) else 3
theorem spec_l2Fault_eq {k : Nat} (a : Int) (xs : List S28) (hk : 40 ≤ k) : spec_l2Fault.f k a xs = some (fontF a xs) := by
  unfold spec_l2Fault.f fontF
  simp only [spec_l1In_eq, Option.bind_some]
  by_cases h1 : 0 ≤ a ∧ a ≤ 255
  · by_cases h2 : xs.length ≤ 20
    · have h3 : ¬ (xs.length : Int) > 20 := by omega
      have h := code_loop (fun k i => spec_l2Fault.l0 k i a xs) (pairC xs) xs.length 0 (fun k i hk h0 hi => by
        have e1 : wrap64 (i - 1) = i - 1 := w64 (by omega)
        have e2 : wrap64 (i + 1) = i + 1 := w64 (by omega)
        have e3 : i - 1 < (xs.length : Int) := by omega
        simp only [spec_l2Fault.l0, spec_l2Pair_eq, Option.bind_some, if_pos h0, if_pos hi, e1, e2, if_pos e3]
        unfold pairC
        by_cases g1 : isCh (rd_T28 xs i).f0 = true ∧ 0 ≤ (rd_T28 xs i).f1 ∧ (rd_T28 xs i).f1 ≤ 255
        · by_cases g2 : 0 < i
          · have e4 : 0 ≤ i - 1 := by omega
            have e5 : 1 ≤ i := by omega
            by_cases g3 : (rd_T28 xs i).f0 ≤ (rd_T28 xs (i - 1)).f0 <;> simp [g1, g2, g3, e4, e5]
          · simp [g1, g2]
        · simp [g1]) (fun k hk => by simp only [spec_l2Fault.l0]; rw [if_neg (by omega)]) xs.length k 0 (by omega) (by omega) (by omega)
      simp only [h1, and_self, decide_true, if_true, if_neg h3, if_pos h2]
      exact h
    · have h3 : (xs.length : Int) > 20 := by omega
      simp only [h1, and_self, decide_true, if_true, if_pos h3, if_neg h2]
  · simp [h1]
theorem impl_FontFault_eq {k : Nat} (a : Int) (xs : List S28) (hk : 40 ≤ k) : impl_FontFault.f k a xs = some (fontF a xs) := by
  unfold impl_FontFault.f fontF
  simp only [impl_in_eq, impl_unless_eq, Option.bind_some]
  rw [impl_first2 (by omega)]
  simp only [Option.bind_some]
  by_cases h1 : 0 ≤ a ∧ a ≤ 255
  · by_cases h2 : xs.length ≤ 20
    · have h3 : (xs.length : Int) ≤ 20 := by omega
      have h := code_loop (fun k i => impl_FontFault.l0 k xs (xs.length : Int) i a xs) (pairC xs) xs.length 5 (fun k i hk h0 hi => by
        have e1 : wrap64 (i - 1) = i - 1 := w64 (by omega)
        have e2 : wrap64 (i + 1) = i + 1 := w64 (by omega)
        have e3 : i - 1 < (xs.length : Int) := by omega
        simp only [impl_FontFault.l0, impl_Pair_ok_eq, impl_unless_eq, Option.bind_some, if_pos h0, if_pos hi, e1, e2, if_pos e3]
        rw [impl_first2 (by omega)]
        unfold pairC
        by_cases g1 : isCh (rd_T28 xs i).f0 = true ∧ 0 ≤ (rd_T28 xs i).f1 ∧ (rd_T28 xs i).f1 ≤ 255
        · by_cases g2 : i = 0
          · subst g2
            simp [g1]
          · have e4 : 0 ≤ i - 1 := by omega
            have e5 : 1 ≤ i := by omega
            have e6 : 0 < i := by omega
            rw [impl_first2 (by omega)]
            by_cases g3 : (rd_T28 xs i).f0 ≤ (rd_T28 xs (i - 1)).f0
            · have g4 : ¬ (rd_T28 xs i).f0 > (rd_T28 xs (i - 1)).f0 := by omega
              simp [g1, g2, g3, g4, e4, e5, e6]
            · have g4 : (rd_T28 xs i).f0 > (rd_T28 xs (i - 1)).f0 := by omega
              simp [g1, g2, g3, g4, e4, e5]
        · by_cases g2 : i = 0
          · subst g2
            simp [g1]
          · have e4 : 0 ≤ i - 1 := by omega
            have e5 : 1 ≤ i := by omega
            rw [impl_first2 (by omega)]
            simp [g1, g2, e4, e5]) (fun k hk => by simp only [impl_FontFault.l0]; rw [if_neg (by omega)]) xs.length k 0 (by omega) (by omega) (by omega)
      simp only [h1, and_self, decide_true, if_true, h3, if_pos h2]
      exact h
    · have h3 : ¬ (xs.length : Int) ≤ 20 := by omega
      simp [h1, h2, h3]
  · simp [h1]



/-- A font without a fault: its pairs rise, and are characters. -/
theorem font_rises {a : Int} {xs : List S28} (h : fontF a xs = 0) : xs.length ≤ 20 ∧ (0 ≤ a ∧ a ≤ 255) ∧ (∀ (i : Nat) (hi : i < xs.length), isCh xs[i].f0 = true ∧ 0 ≤ xs[i].f1 ∧ xs[i].f1 ≤ 255) ∧ (∀ (i j : Nat) (hi : i < j) (hj : j < xs.length), xs[i].f0 < xs[j].f0) := by
  unfold fontF at h
  by_cases h1 : 0 ≤ a ∧ a ≤ 255
  · rw [if_pos h1] at h
    by_cases h2 : xs.length ≤ 20
    · rw [if_pos h2] at h
      have hz := codeFrom_zero (pairC xs) xs.length 0 h
      have hz' : ∀ i : Nat, (hi : i < xs.length) → (isCh xs[i].f0 = true ∧ 0 ≤ xs[i].f1 ∧ xs[i].f1 ≤ 255) ∧ (∀ h0 : 0 < i, xs[i - 1].f0 < xs[i].f0) := by
        intro i hi
        have := hz i (by omega) (by omega)
        unfold pairC at this
        rw [rdPairb hi] at this
        by_cases g1 : isCh xs[i].f0 = true ∧ 0 ≤ xs[i].f1 ∧ xs[i].f1 ≤ 255
        · rw [if_pos g1] at this
          refine ⟨g1, fun h0 => ?_⟩
          have e : ((i : Int) - 1) = ((i - 1 : Nat) : Int) := by omega
          rw [e, rdPairb (by omega)] at this
          by_cases g2 : 0 < (i : Int) ∧ xs[i].f0 ≤ xs[i - 1].f0
          · rw [if_pos g2] at this
            omega
          · omega
        · rw [if_neg g1] at this
          omega
      refine ⟨h2, h1, fun i hi => (hz' i hi).1, fun i j hij hj => ?_⟩
      obtain ⟨d, rfl⟩ : ∃ d, j = i + 1 + d := ⟨j - i - 1, by omega⟩
      induction d with
      | zero =>
        have := (hz' (i + 1) hj).2 (by omega)
        simpa using this
      | succ d ih =>
        have h3 := ih (by omega) (by omega)
        have h4 := (hz' (i + 1 + (d + 1)) hj).2 (by omega)
        have e : i + 1 + (d + 1) - 1 = i + 1 + d := by omega
        simp only [e] at h4
        omega
    · rw [if_neg h2] at h
      omega
  · rw [if_neg h1] at h
    omega
/-- Where a character's pair is, or would be. -/
theorem place_eq {k : Nat} {a : Int} {xs : List S28} (h : fontF a xs = 0) (x : Int) (hx : isCh x = true) (hk : 100 ≤ k) :
    ∃ p : Nat, impl_Font_place.f k a xs x = some ((p : Int), decide (∃ h : p < xs.length, xs[p].f0 = x)) ∧ p ≤ xs.length ∧ (∀ (m : Nat) (hm : m < xs.length), m < p → xs[m].f0 < x) ∧ (∀ (m : Nat) (hm : m < xs.length), p ≤ m → x ≤ xs[m].f0) := by
  obtain ⟨hl, ha, hc, hr⟩ := font_rises h
  rw [isCh_iff] at hx
  have hd : ∀ (i : Nat) (hi : i < xs.length), wrap64 ((rd_T28 xs (i : Int)).f0 - x) = xs[i].f0 - x := by
    intro i hi
    rw [rdPairb hi]
    have := (hc i hi).1
    rw [isCh_iff] at this
    exact w64 (by omega)
  obtain ⟨p, h1, h2, h3, h4⟩ := bs_loop (fun k i j => impl_Pair_int64.l0 k xs x (xs.length : Int) i j) (fun i => wrap64 ((rd_T28 xs i).f0 - x)) xs.length 0
    (fun k i j _ h0 hij hj => by
      simp only [impl_Pair_int64.l0, impl_Font_place_1.f, Option.bind_some]
      rw [if_pos hij, mid_eq h0 (by omega) (by omega), if_pos (by omega), if_pos (by omega), w64 (x := (i + j) / 2 + 1) (by omega)])
    (fun k i _ h0 hi => by
      simp only [impl_Pair_int64.l0, impl_Font_place_1.f, Option.bind_some]
      rw [if_neg (by omega)]
      by_cases g : i < (xs.length : Int)
      · simp only [g, h0, if_true]
      · simp only [g, if_false])
    (fun i j h0 hij hj hlt => by
      obtain ⟨i, rfl⟩ := Int.eq_ofNat_of_zero_le h0
      obtain ⟨j, rfl⟩ := Int.eq_ofNat_of_zero_le (show 0 ≤ j by omega)
      rw [hd j (by omega)] at hlt
      rw [hd i (by omega)]
      by_cases e : i = j
      · subst e; exact hlt
      · have := hr i j (by omega) (by omega)
        omega)
    xs.length k 0 (xs.length : Int) (by omega) (by omega) (by omega) (by omega) (fun m h1 h2 => by omega) (fun m h1 h2 => by omega) (by omega)
  refine ⟨p, ?_, h2, fun m hm hmp => ?_, fun m hm hpm => ?_⟩
  · unfold impl_Font_place.f impl_Pair_int64.f
    rw [h1]
    simp only [Option.bind_some]
    congr 2
    refine decide_eq_decide.2 ?_
    constructor
    · rintro ⟨g1, g2⟩
      rw [hd p g1] at g2
      exact ⟨g1, by omega⟩
    · rintro ⟨g1, g2⟩
      refine ⟨g1, ?_⟩
      rw [hd p g1]
      omega
  · have := h3 m hmp
    rw [hd m hm] at this
    omega
  · have := h4 m hpm hm
    rw [hd m hm] at this
    omega
/-- What the search finds is what the list's first pair of that character is. -/
theorem place_find {a : Int} {xs : List S28} (h : fontF a xs = 0) {x : Int} {p : Nat} (h1 : ∀ (m : Nat) (hm : m < xs.length), m < p → xs[m].f0 < x) :
    (∀ (hp : p < xs.length), xs[p].f0 = x → xs.find? (fun q => decide (q.f0 = x)) = some xs[p]) ∧ ((∀ (m : Nat) (hm : m < xs.length), p ≤ m → x ≤ xs[m].f0) → ¬ (∃ hp : p < xs.length, xs[p].f0 = x) → xs.find? (fun q => decide (q.f0 = x)) = none) := by
  obtain ⟨hl, ha, hc, hr⟩ := font_rises h
  constructor
  · intro hp e
    rw [List.find?_eq_some_iff_getElem]
    refine ⟨by simpa using e, p, hp, rfl, fun j hj => ?_⟩
    have := h1 j (by omega) hj
    simp
    omega
  · intro h2 hn
    rw [List.find?_eq_none]
    intro q hq
    obtain ⟨i, hi, rfl⟩ := List.mem_iff_getElem.1 hq
    simp only [decide_eq_true_eq]
    intro e
    rcases Nat.lt_or_ge i p with g | g
    · have := h1 i hi g
      omega
    · by_cases e2 : i = p
      · subst e2
        exact hn ⟨hi, e⟩
      · have g3 := hr p i (by omega) hi
        have g4 := h2 p (by omega) (Nat.le_refl _)
        omega



theorem bs_some (L : Nat → Int → Int → Option (Int × Bool)) (c : Int → Int) (n : Nat)
    (hs : ∀ (k : Nat) (i j : Int), 0 ≤ i → i < j → j ≤ (n : Int) → L (k + 1) i j = if c ((i + j) / 2) < 0 then L k ((i + j) / 2 + 1) j else L k i ((i + j) / 2))
    (he : ∀ (k : Nat) (i : Int), 0 ≤ i → i ≤ (n : Int) → L (k + 1) i i = if i < (n : Int) then some (i, c i == 0) else some (i, false)) :
    ∀ (d k : Nat) (i j : Int), (j - i).toNat ≤ d → 0 ≤ i → i ≤ j → j ≤ (n : Int) → d < k → ∃ r, L k i j = some r := by
  intro d
  induction d with
  | zero =>
    intro k i j hd h0 hij hj hk
    obtain ⟨k, rfl⟩ : ∃ m, k = m + 1 := ⟨k - 1, by omega⟩
    obtain rfl : i = j := by omega
    rw [he k i h0 hj]
    split <;> exact ⟨_, rfl⟩
  | succ d ih =>
    intro k i j hd h0 hij hj hk
    by_cases hlt : i < j
    · obtain ⟨k, rfl⟩ : ∃ m, k = m + 1 := ⟨k - 1, by omega⟩
      rw [hs k i j h0 hlt hj]
      split
      · exact ih k ((i + j) / 2 + 1) j (by omega) (by omega) (by omega) hj (by omega)
      · exact ih k i ((i + j) / 2) (by omega) h0 (by omega) (by omega) (by omega)
    · exact ih k i j (by omega) h0 hij hj (by omega)
theorem place_some {k : Nat} {a : Int} {xs : List S28} (hl : xs.length ≤ 20) (x : Int) (hk : 100 ≤ k) : ∃ r : Int × Bool, impl_Font_place.f k a xs x = some r := by
  obtain ⟨r, h⟩ := bs_some (fun k i j => impl_Pair_int64.l0 k xs x (xs.length : Int) i j) (fun i => wrap64 ((rd_T28 xs i).f0 - x)) xs.length
    (fun k i j h0 hij hj => by
      simp only [impl_Pair_int64.l0, impl_Font_place_1.f, Option.bind_some]
      rw [if_pos hij, mid_eq h0 (by omega) (by omega), if_pos (by omega), if_pos (by omega), w64 (x := (i + j) / 2 + 1) (by omega)])
    (fun k i h0 hi => by
      simp only [impl_Pair_int64.l0, impl_Font_place_1.f, Option.bind_some]
      rw [if_neg (by omega)]
      by_cases g : i < (xs.length : Int)
      · simp only [g, h0, if_true]
      · simp only [g, if_false])
    xs.length k 0 (xs.length : Int) (by omega) (by omega) (by omega) (by omega) (by omega)
  unfold impl_Font_place.f impl_Pair_int64.f
  refine ⟨(r.1, r.2), ?_⟩
  rw [h]
  rfl



/-- Bytes, as the drawing functions read them. -/
def Bs (xs : List Int) : Prop := xs.length ≤ 2000000 ∧ ∀ y ∈ xs, 0 ≤ y ∧ y ≤ 255
theorem tmod_lt' {x a : Int} (h0 : 0 ≤ x) (ha : 1 ≤ a) : 0 ≤ Int.tmod x a ∧ Int.tmod x a < a := by
  rw [Int.tmod_eq_emod_of_nonneg h0]
  exact ⟨Int.emod_nonneg _ (by omega), Int.emod_lt_of_pos _ (by omega)⟩
theorem rd_byte {xs : List Int} (hb : Bs xs) {i : Int} (h0 : 0 ≤ i) (hi : i < (xs.length : Int)) : 0 ≤ rd xs i ∧ rd xs i ≤ 255 := by
  obtain ⟨n, rfl⟩ := Int.eq_ofNat_of_zero_le h0
  rw [rd_nat (show n < xs.length by omega)]
  exact hb.2 _ (List.getElem_mem _)
theorem next_some {xs : List Int} (hb : Bs xs) {s : Int} (h0 : 0 ≤ s) (h1 : s ≤ 100000) (a : Int) : ∃ v : Int, spec_l1Next.f xs s a = some (v, s + 1) ∧ (1 ≤ a → 0 ≤ v ∧ v < a) := by
  have e1 : wrap64 (s + 1) = s + 1 := w64 (by omega)
  have e2 : wrap64 (s + 1 - 1) = s := by rw [w64 (by omega)]; omega
  unfold spec_l1Next.f
  simp only [e1, e2]
  by_cases g1 : a < 1
  · rw [if_pos g1]
    exact ⟨0, rfl, fun h => by omega⟩
  rw [if_neg g1]
  by_cases g2 : (xs.length : Int) = 0
  · rw [if_pos g2, if_neg (by omega), w64 (by omega)]
    exact ⟨_, rfl, fun h => tmod_lt' (by omega) h⟩
  rw [if_neg g2]
  have hl := hb.1
  obtain ⟨m0, m1⟩ := tmod_lt' (x := s) (a := (xs.length : Int)) h0 (by omega)
  rw [if_pos m0, if_pos m1]
  have hd : Int.tdiv s (xs.length : Int) = s / (xs.length : Int) := Int.tdiv_eq_ediv_of_nonneg h0
  have hq0 : 0 ≤ s / (xs.length : Int) := Int.ediv_nonneg h0 (by omega)
  have hq1 : s / (xs.length : Int) ≤ s := Int.ediv_le_self _ h0
  obtain ⟨b0, b1⟩ := rd_byte hb m0 m1
  have e3 : wrap64 (Int.tdiv s (xs.length : Int)) = s / (xs.length : Int) := by rw [hd]; exact w64 (by omega)
  have e4 : wrap64 (s / (xs.length : Int) * 37) = s / (xs.length : Int) * 37 := w64 (by omega)
  have e5 : wrap64 (rd xs (Int.tmod s (xs.length : Int))) = rd xs (Int.tmod s (xs.length : Int)) := w64 (by omega)
  have e6 : wrap64 (rd xs (Int.tmod s (xs.length : Int)) + s / (xs.length : Int) * 37) = rd xs (Int.tmod s (xs.length : Int)) + s / (xs.length : Int) * 37 := w64 (by omega)
  simp only [e1, e2, e3, e4, e5, e6]
  by_cases g3 : a > 200
  · rw [if_pos g3]
    obtain ⟨n0, n1⟩ := tmod_lt' (x := s + 1) (a := (xs.length : Int)) (by omega) (by omega)
    rw [if_pos n0, if_pos n1, if_neg (by omega)]
    obtain ⟨c0, c1⟩ := rd_byte hb n0 n1
    have e7 : wrap64 (rd xs (Int.tmod (s + 1) (xs.length : Int))) = rd xs (Int.tmod (s + 1) (xs.length : Int)) := w64 (by omega)
    have e8 : wrap64 (rd xs (Int.tmod (s + 1) (xs.length : Int)) * 13) = rd xs (Int.tmod (s + 1) (xs.length : Int)) * 13 := w64 (by omega)
    have e9 : wrap64 ((rd xs (Int.tmod s (xs.length : Int)) + s / (xs.length : Int) * 37) * 251) = (rd xs (Int.tmod s (xs.length : Int)) + s / (xs.length : Int) * 37) * 251 := w64 (by omega)
    simp only [e7, e8, e9]
    refine ⟨_, rfl, fun h => tmod_lt' ?_ h⟩
    rw [w64 (x := (rd xs (Int.tmod s (xs.length : Int)) + s / (xs.length : Int) * 37) * 251 + rd xs (Int.tmod (s + 1) (xs.length : Int)) * 13) (by omega), w64 (by omega)]
    omega
  · rw [if_neg g3, if_neg (by omega)]
    exact ⟨_, rfl, fun h => tmod_lt' (by omega) h⟩
theorem pick_some {xs : List Int} (hb : Bs xs) {s : Int} (h0 : 0 ≤ s) (h1 : s ≤ 100000) (l : List Int) (hl : 1 ≤ l.length) : ∃ v : Int, spec_l1Pick.f xs s l = some (v, s + 1) := by
  obtain ⟨v, hv, hr⟩ := next_some hb h0 h1 (l.length : Int)
  obtain ⟨r0, r1⟩ := hr (by omega)
  unfold spec_l1Pick.f
  rw [hv]
  simp only [Option.bind_some]
  rw [if_pos r0, if_pos r1]
  exact ⟨_, rfl⟩
theorem draw_loop {xs : List Int} (hb : Bs xs) : ∀ (d k : Nat) (x s a : Int) (l : List S28), d < k → 0 ≤ s → s + 2 * d ≤ 50000 → l.length + d ≤ 100 → ∃ (l' : List S28), spec_l2Draw.l0 k x (d : Int) xs s a l = some (a, l', s + 2 * d) ∧ l'.length ≤ l.length + d := by
  intro d
  induction d with
  | zero =>
    intro k x s a l hk h0 hs hl
    obtain ⟨k, rfl⟩ : ∃ m, k = m + 1 := ⟨k - 1, by omega⟩
    simp only [spec_l2Draw.l0]
    rw [if_neg (by omega)]
    exact ⟨l, by simp, by omega⟩
  | succ d ih =>
    intro k x s a l hk h0 hs hl
    obtain ⟨k, rfl⟩ : ∃ m, k = m + 1 := ⟨k - 1, by omega⟩
    obtain ⟨v, hv, _⟩ := next_some hb h0 (by omega) 9
    obtain ⟨u, hu, _⟩ := next_some hb (s := s + 1) (by omega) (by omega) 5
    simp only [spec_l2Draw.l0]
    rw [if_pos (by omega), hv]
    simp only [Option.bind_some]
    rw [hu]
    simp only [Option.bind_some]
    rw [if_pos (by omega), w64 (x := ((d + 1 : Nat) : Int) - 1) (by omega)]
    have e : ((d + 1 : Nat) : Int) - 1 = (d : Int) := by omega
    rw [e]
    obtain ⟨l', h1, h2⟩ := ih k (wrap64 (wrap64 (x + 1) + v)) (s + 1 + 1) a (l ++ [(⟨wrap64 (wrap64 (x + 1) + v), u⟩ : S28)]) (by omega) (by omega) (by omega) (by simp; omega)
    refine ⟨l', ?_, by simp at h2; omega⟩
    rw [h1]
    congr 3
    omega
theorem bent_loop {xs : List Int} : ∀ (d k : Nat) (x s a : Int) (l : List S28), d < k → 0 ≤ x → x + d = 20 → l.length + d ≤ 100 → ∃ (l' : List S28), spec_l2Bent.l0 k x xs s a l = some (a, l', s) := by
  intro d
  induction d with
  | zero =>
    intro k x s a l hk h0 hx hl
    obtain ⟨k, rfl⟩ : ∃ m, k = m + 1 := ⟨k - 1, by omega⟩
    simp only [spec_l2Bent.l0]
    rw [if_neg (by omega)]
    exact ⟨l, rfl⟩
  | succ d ih =>
    intro k x s a l hk h0 hx hl
    obtain ⟨k, rfl⟩ : ∃ m, k = m + 1 := ⟨k - 1, by omega⟩
    simp only [spec_l2Bent.l0]
    rw [if_pos (by omega), if_pos (by omega), w64 (x := x + 1) (by omega)]
    exact ih k (x + 1) s a _ (by omega) (by omega) (by omega) (by simp; omega)
theorem draw_some {k : Nat} (hk : 100 ≤ k) {xs : List Int} (hb : Bs xs) : ∃ (a : Int) (l : List S28) (s : Int), spec_l2Draw.f k xs 0 = some (a, l, s) ∧ l.length ≤ 10 ∧ 0 ≤ s ∧ s ≤ 100 := by
  unfold spec_l2Draw.f
  obtain ⟨v, hv, _⟩ := next_some hb (s := 0) (by omega) (by omega) 3
  rw [hv]
  simp only [Option.bind_some, Int.zero_add]
  obtain ⟨u, hu, hr⟩ := next_some hb (s := 1) (by omega) (by omega) 8
  rw [hu]
  simp only [Option.bind_some]
  obtain ⟨r0, r1⟩ := hr (by omega)
  obtain ⟨d, rfl⟩ := Int.eq_ofNat_of_zero_le r0
  obtain ⟨l, h1, h2⟩ := draw_loop hb d k 60 (1 + 1) v [] (by omega) (by omega) (by omega) (by simp; omega)
  exact ⟨v, l, _, h1, by simp at h2; omega, by omega, by omega⟩
theorem bent_some {k : Nat} (hk : 100 ≤ k) {xs : List Int} (hb : Bs xs) : ∃ (a : Int) (l : List S28) (s : Int), spec_l2Bent.f k xs 0 = some (a, l, s) ∧ 0 ≤ s ∧ s ≤ 200 := by
  unfold spec_l2Bent.f
  obtain ⟨a, l, s, h, hl, h0, h1⟩ := draw_some hk hb
  rw [h]
  simp only [Option.bind_some]
  obtain ⟨v, hv, _⟩ := next_some hb h0 (by omega) 14
  rw [hv]
  simp only [Option.bind_some]
  by_cases g0 : v = 0
  · rw [if_pos g0]
    obtain ⟨u, hu⟩ := pick_some hb (s := s + 1) (by omega) (by omega) [(-1), 255, 256] (by simp)
    rw [hu]
    exact ⟨_, _, _, rfl, by simp only []; omega, by simp only []; omega⟩
  rw [if_neg g0]
  by_cases g1 : v = 1
  · rw [if_pos g1]
    obtain ⟨u, hu⟩ := pick_some hb (s := s + 1) (by omega) (by omega) [61, 55296, 9999] (by simp)
    rw [hu]
    simp only [Option.bind_some]
    obtain ⟨t, ht⟩ := pick_some hb (s := s + 1 + 1) (by omega) (by omega) [0, 256] (by simp)
    rw [ht]
    simp only [Option.bind_some]
    rw [if_pos (by omega)]
    exact ⟨_, _, _, rfl, by omega, by omega⟩
  rw [if_neg g1]
  by_cases g2 : v = 2
  · rw [if_pos g2, if_pos (by omega)]
    exact ⟨_, _, _, rfl, by omega, by omega⟩
  rw [if_neg g2]
  by_cases g3 : v = 3
  · rw [if_pos g3]
    obtain ⟨l', h'⟩ := bent_loop (xs := xs) 20 k 0 (s + 1) a [] (by omega) (by omega) (by omega) (by simp)
    rw [h']
    exact ⟨_, _, _, rfl, by omega, by omega⟩
  rw [if_neg g3]
  exact ⟨_, _, _, rfl, by omega, by omega⟩



/-- GlyphOf of one of the font's own characters. -/
theorem glyph_own {k : Nat} {a : Int} {xs : List S28} (h : fontF a xs = 0) {q : S28} (hq : q ∈ xs) (hk : 200 ≤ k) : impl_GlyphOf.f k a xs q.f0 = some (0, q.f1) := by
  obtain ⟨hl, ha, hc, hr⟩ := font_rises h
  obtain ⟨i, hi, rfl⟩ := List.mem_iff_getElem.1 hq
  have hcc := (hc i hi).1
  obtain ⟨p, p1, p2, p3, p4⟩ := place_eq h xs[i].f0 hcc (k := k) (by omega)
  have hp : ∃ hp : p < xs.length, xs[p].f0 = xs[i].f0 := by
    rcases Nat.lt_or_ge i p with g | g
    · have := p3 i hi g
      omega
    · refine ⟨by omega, ?_⟩
      have g4 := p4 p (by omega) (Nat.le_refl _)
      by_cases e : p = i
      · subst e; rfl
      · have := hr p i (by omega) hi
        omega
  have hpi : p = i := by
    obtain ⟨hp1, hp2⟩ := hp
    rcases Nat.lt_trichotomy p i with g | g | g
    · have := hr p i g hi
      omega
    · exact g
    · have := hr i p g hp1
      omega
  subst hpi
  unfold impl_GlyphOf.f
  rw [impl_FontFault_eq _ _ (by omega)]
  simp only [Option.bind_some, impl_isChar_eq, impl_unless_eq]
  rw [impl_first2 (by omega)]
  simp only [Option.bind_some, h, hcc, if_true]
  rw [p1]
  simp only [Option.bind_some, decide_eq_true_eq]
  rw [if_pos (show ∃ h : p < xs.length, True from ⟨hi, trivial⟩), if_pos (by omega), if_pos (by omega), rdPairb hi]



theorem less_loop {a c : Int} {xs : List S28} (hl : xs.length ≤ 20) : ∀ (d k i : Nat) (acc : List S28), xs.length - i = d → i ≤ xs.length → d < k → acc.length ≤ i → spec_l2Less.l0 k c acc (i : Int) a xs = some (acc ++ (xs.drop i).filter (fun q => decide (q.f0 ≠ c))) := by
  intro d
  induction d with
  | zero =>
    intro k i acc hd hi hk ha
    obtain ⟨k, rfl⟩ : ∃ m, k = m + 1 := ⟨k - 1, by omega⟩
    simp only [spec_l2Less.l0]
    rw [if_neg (by omega), List.drop_eq_nil_of_le (by omega)]
    simp
  | succ d ih =>
    intro k i acc hd hi hk ha
    obtain ⟨k, rfl⟩ : ∃ m, k = m + 1 := ⟨k - 1, by omega⟩
    have hx : i < xs.length := by omega
    have ef : (xs.drop i).filter (fun q => decide (q.f0 ≠ c)) = if decide (xs[i].f0 ≠ c) = true then xs[i] :: (xs.drop (i + 1)).filter (fun q => decide (q.f0 ≠ c)) else (xs.drop (i + 1)).filter (fun q => decide (q.f0 ≠ c)) := by
      rw [List.drop_eq_getElem_cons hx, List.filter_cons]
    simp only [spec_l2Less.l0]
    rw [if_pos (by omega), if_pos (by omega), rdPairb hx, w64n (by omega), ef]
    by_cases g : xs[i].f0 = c
    · rw [if_pos g, if_neg (by simpa using g), ih k (i + 1) acc (by omega) (by omega) (by omega) (by omega)]
    · rw [if_neg g, if_pos (by omega), if_pos (by simpa using g), ih k (i + 1) _ (by omega) (by omega) (by omega) (by simp; omega), List.append_assoc, List.singleton_append]
theorem none_there {xs : List S28} {c : Int} (h : ∀ (i : Nat) (hi : i < xs.length), xs[i].f0 ≠ c) : (xs.filter (fun q => decide (q.f0 ≠ c))).length = xs.length := by
  rw [List.length_filter_eq_length_iff]
  intro q hq
  obtain ⟨i, hi, rfl⟩ := List.mem_iff_getElem.1 hq
  simpa using h i hi
theorem one_out {xs : List S28} {c : Int} {p : Nat} (hp : p < xs.length) (e : xs[p].f0 = c) (hr : ∀ (i j : Nat) (hi : i < j) (hj : j < xs.length), xs[i].f0 < xs[j].f0) : xs.filter (fun q => decide (q.f0 ≠ c)) = xs.eraseIdx p ∧ (xs.filter (fun q => decide (q.f0 ≠ c))).length ≠ xs.length := by
  have h1 : (xs.take p).filter (fun q => decide (q.f0 ≠ c)) = xs.take p := by
    rw [List.filter_eq_self]
    intro q hq
    obtain ⟨i, hi, rfl⟩ := List.mem_iff_getElem.1 hq
    rw [List.length_take] at hi
    rw [List.getElem_take]
    have := hr i p (by omega) hp
    simp
    omega
  have h2 : (xs.drop (p + 1)).filter (fun q => decide (q.f0 ≠ c)) = xs.drop (p + 1) := by
    rw [List.filter_eq_self]
    intro q hq
    obtain ⟨i, hi, rfl⟩ := List.mem_iff_getElem.1 hq
    rw [List.length_drop] at hi
    rw [List.getElem_drop]
    have := hr p (p + 1 + i) (by omega) (by omega)
    simp
    omega
  have h3 : xs.filter (fun q => decide (q.f0 ≠ c)) = xs.take p ++ xs.drop (p + 1) := by
    have e0 : xs = xs.take p ++ (xs[p] :: xs.drop (p + 1)) := by
      rw [← List.drop_eq_getElem_cons hp, List.take_append_drop]
    have e1 : xs.filter (fun q => decide (q.f0 ≠ c)) = (xs.take p ++ (xs[p] :: xs.drop (p + 1))).filter (fun q => decide (q.f0 ≠ c)) := by rw [← e0]
    rw [e1, List.filter_append, h1, List.filter_cons, if_neg (by simpa using e), h2]
  refine ⟨by rw [h3, List.eraseIdx_eq_take_drop_succ], ?_⟩
  rw [h3, List.length_append, List.length_take, List.length_drop]
  omega



def dropF (a : Int) (xs : List S28) (c : Int) : Int × Int × List S28 := if fontF a xs = 0 then (if (xs.filter (fun q => decide (q.f0 ≠ c))).length = xs.length then (4, 0, []) else (0, a, xs.filter (fun q => decide (q.f0 ≠ c)))) else (fontF a xs, 0, [])
theorem dropF_len (a : Int) (xs : List S28) (c : Int) : (dropF a xs c).2.2.length ≤ xs.length := by
  unfold dropF
  split
  · split
    · simp
    · exact List.length_filter_le _ _
  · simp
theorem impl_DropPair_eq {k : Nat} (a : Int) (xs : List S28) (c : Int) (hk : 200 ≤ k) : impl_DropPair.f k a xs c = some (dropF a xs c) := by
  obtain ⟨k, rfl⟩ : ∃ m, k = m + 1 := ⟨k - 1, by omega⟩
  unfold impl_DropPair.f dropF
  rw [impl_FontFault_eq _ _ (by omega)]
  simp only [Option.bind_some, impl_isChar_eq]
  by_cases h : fontF a xs = 0
  · obtain ⟨hl, ha, hcs, hr⟩ := font_rises h
    rw [if_pos h, if_pos h]
    by_cases hc : isCh c = true
    · obtain ⟨p, p1, p2, p3, p4⟩ := place_eq h c hc (k := k + 1) (by omega)
      rw [p1]
      simp only [Option.bind_some]
      rw [if_pos hc]
      by_cases hp : ∃ h : p < xs.length, xs[p].f0 = c
      · obtain ⟨f1, f2⟩ := one_out hp.1 hp.2 hr
        have hb := hp.1
        rw [if_neg f2, f1]
        have w1 : wrap64 ((p : Int) + 1) = (p : Int) + 1 := w64 (by omega)
        simp only [impl_DropPair.j0, impl_Pair_49.f, impl_Pair_57.f, Option.bind_some, hp, decide_true, Bool.not_true, Bool.false_eq_true, if_false, List.length_nil, List.nil_append, w1]
        rw [if_pos (by omega)]
        simp only [Option.bind_some]
        rw [if_neg (by omega), if_pos (by omega), if_pos (by omega), if_pos (by omega), if_pos (by omega)]
        simp
      · have hn : ∀ (i : Nat) (hi : i < xs.length), xs[i].f0 ≠ c := by
          intro i hi e
          rcases Nat.lt_or_ge i p with g | g
          · have := p3 i hi g
            omega
          · by_cases e2 : i = p
            · subst e2
              exact hp ⟨hi, e⟩
            · have g3 := hr p i (by omega) hi
              have g4 := p4 p (by omega) (Nat.le_refl _)
              omega
        rw [if_pos (none_there hn)]
        simp only [impl_DropPair.j0, hp, decide_false, Bool.not_false, if_true]
    · obtain ⟨r, hr1⟩ := place_some (a := a) hl c (k := k + 1) (by omega)
      rw [hr1]
      simp only [Option.bind_some]
      rw [if_neg hc]
      have hn : ∀ (i : Nat) (hi : i < xs.length), xs[i].f0 ≠ c := by
        intro i hi e
        rw [← e] at hc
        exact hc (hcs i hi).1
      rw [if_pos (none_there hn)]
      simp only [impl_DropPair.j0, if_true]
  · rw [if_neg h, if_neg h]



def putF (a : Int) (xs : List S28) (c g : Int) : Int × Int × List S28 := if fontF a xs = 0 then (if isCh c = true ∧ 0 ≤ g ∧ g ≤ 255 then (if 20 ≤ (xs.filter (fun q => decide (q.f0 ≠ c))).length then (2, 0, []) else (0, a, (xs.filter (fun q => decide (q.f0 ≠ c))).takeWhile (fun q => decide (q.f0 < c)) ++ [⟨c, g⟩] ++ (xs.filter (fun q => decide (q.f0 ≠ c))).dropWhile (fun q => decide (q.f0 < c)))) else (3, 0, [])) else (fontF a xs, 0, [])
theorem while_at {l : List S28} {c : Int} : ∀ {q : Nat} (_ : q ≤ l.length) (_ : ∀ (m : Nat) (hm : m < l.length), m < q → l[m].f0 < c) (_ : ∀ (h : q < l.length), c ≤ l[q].f0), l.takeWhile (fun x => decide (x.f0 < c)) = l.take q ∧ l.dropWhile (fun x => decide (x.f0 < c)) = l.drop q := by
  induction l with
  | nil =>
    intro q hq _ _
    simp
  | cons y r ih =>
    intro q hq h1 h2
    match q with
    | 0 =>
      have := h2 (by simp)
      simp only [List.getElem_cons_zero] at this
      have hn : ¬ y.f0 < c := by omega
      simp [hn]
    | q + 1 =>
      have h0 := h1 0 (by simp) (by omega)
      simp only [List.getElem_cons_zero] at h0
      obtain ⟨e1, e2⟩ := ih (q := q) (by simpa using hq) (fun m hm hmq => by have := h1 (m + 1) (by simpa using hm) (by omega); simpa using this) (fun h => by have := h2 (by simpa using h); simpa using this)
      simp [h0, e1, e2]
theorem put_loop {l : List S28} {c g a : Int} {xs : List S28} {q : Nat} (hl : l.length ≤ 20) (hq : q ≤ l.length) (h1 : ∀ (m : Nat) (hm : m < l.length), m < q → l[m].f0 < c) (h2 : ∀ (h : q < l.length), c ≤ l[q].f0) :
    ∀ (d k i : Nat), q - i = d → i ≤ q → d < k → spec_PutPair.l0 k l (i : Int) a xs c g = some (0, a, l.take q ++ [⟨c, g⟩] ++ l.drop q) := by
  intro d
  induction d with
  | zero =>
    intro k i hd hi hk
    obtain ⟨k, rfl⟩ : ∃ m, k = m + 1 := ⟨k - 1, by omega⟩
    obtain rfl : i = q := by omega
    simp only [spec_PutPair.l0, Option.bind_some, List.nil_append, List.length_nil, Int.toNat_natCast]
    have t1 : (l.take i).length = i := by rw [List.length_take]; omega
    have t2 : (l.drop i).length = l.length - i := List.length_drop
    by_cases h : i < l.length
    · have h3 := h2 h
      rw [if_pos (by omega), if_pos (by omega), rdPairb h, if_neg (by omega), if_pos (by omega), if_pos (by omega), if_pos (by omega), if_pos (by simp; omega)]
    · rw [if_neg (by omega), if_pos (by omega), if_pos (by omega), if_pos (by omega), if_pos (by omega), if_pos (by simp; omega)]
  | succ d ih =>
    intro k i hd hi hk
    obtain ⟨k, rfl⟩ : ∃ m, k = m + 1 := ⟨k - 1, by omega⟩
    have hx : i < l.length := by omega
    have h3 := h1 i hx (by omega)
    simp only [spec_PutPair.l0]
    rw [if_pos (by omega), if_pos (by omega), rdPairb hx, if_pos h3, w64n (by omega)]
    exact ih k (i + 1) (by omega) (by omega) (by omega)
theorem put_place {xs : List S28} {c : Int} {p : Nat} (hr : ∀ (i j : Nat) (hi : i < j) (hj : j < xs.length), xs[i].f0 < xs[j].f0) (p2 : p ≤ xs.length) (p3 : ∀ (m : Nat) (hm : m < xs.length), m < p → xs[m].f0 < c) (p4 : ∀ (m : Nat) (hm : m < xs.length), p ≤ m → c ≤ xs[m].f0) :
    (∀ (h : p < xs.length), xs[p].f0 = c → (xs.filter (fun q => decide (q.f0 ≠ c))).length + 1 = xs.length ∧ (xs.filter (fun q => decide (q.f0 ≠ c))) = xs.take p ++ xs.drop (p + 1)) ∧ ((¬ ∃ h : p < xs.length, xs[p].f0 = c) → xs.filter (fun q => decide (q.f0 ≠ c)) = xs) := by
  constructor
  · intro hp e
    obtain ⟨f1, _⟩ := one_out hp e hr
    rw [f1, List.length_eraseIdx_of_lt hp]
    exact ⟨by omega, List.eraseIdx_eq_take_drop_succ _ _⟩
  · intro hp
    rw [List.filter_eq_self]
    intro q hq
    obtain ⟨i, hi, rfl⟩ := List.mem_iff_getElem.1 hq
    have : xs[i].f0 ≠ c := by
      intro e
      rcases Nat.lt_or_ge i p with g | g
      · have := p3 i hi g
        omega
      · by_cases e2 : i = p
        · subst e2
          exact hp ⟨hi, e⟩
        · have g3 := hr p i (by omega) hi
          have g4 := p4 p (by omega) (Nat.le_refl _)
          omega
    simpa using this
theorem less_at {xs : List S28} {c : Int} {p : Nat} (hr : ∀ (i j : Nat) (hi : i < j) (hj : j < xs.length), xs[i].f0 < xs[j].f0) (p2 : p ≤ xs.length) (p3 : ∀ (m : Nat) (hm : m < xs.length), m < p → xs[m].f0 < c) (p4 : ∀ (m : Nat) (hm : m < xs.length), p ≤ m → c ≤ xs[m].f0) :
    p ≤ (xs.filter (fun q => decide (q.f0 ≠ c))).length ∧ (∀ (m : Nat) (hm : m < (xs.filter (fun q => decide (q.f0 ≠ c))).length), m < p → (xs.filter (fun q => decide (q.f0 ≠ c)))[m].f0 < c) ∧ (∀ (h : p < (xs.filter (fun q => decide (q.f0 ≠ c))).length), c ≤ (xs.filter (fun q => decide (q.f0 ≠ c)))[p].f0) := by
  obtain ⟨f1, f2⟩ := put_place hr p2 p3 p4
  by_cases hp : ∃ h : p < xs.length, xs[p].f0 = c
  · obtain ⟨g1, g2⟩ := f1 hp.1 hp.2
    have hb := hp.1
    rw [g2]
    have t1 : (xs.take p).length = p := by rw [List.length_take]; omega
    refine ⟨by rw [List.length_append]; omega, fun m hm hmp => ?_, fun h => ?_⟩
    · rw [List.getElem_append_left (by omega), List.getElem_take]
      exact p3 m (by omega) hmp
    · rw [List.length_append, List.length_drop, t1] at h
      rw [List.getElem_append_right (by omega)]
      simp only [t1, Nat.sub_self, List.getElem_drop]
      exact p4 _ (by omega) (by omega)
  · rw [f2 hp]
    exact ⟨p2, p3, fun h => p4 p h (Nat.le_refl _)⟩
theorem spec_PutPair_eq {k : Nat} (a : Int) (xs : List S28) (c g : Int) (hk : 200 ≤ k) (hp : ∀ (_ : fontF a xs = 0) (_ : isCh c = true), ∃ p : Nat, p ≤ xs.length ∧ (∀ (m : Nat) (hm : m < xs.length), m < p → xs[m].f0 < c) ∧ (∀ (m : Nat) (hm : m < xs.length), p ≤ m → c ≤ xs[m].f0)) : spec_PutPair.f k a xs c g = some (putF a xs c g) := by
  unfold spec_PutPair.f putF spec_l2Less.f
  rw [spec_l2Fault_eq _ _ (by omega)]
  simp only [Option.bind_some, spec_l2Pair_eq, decide_eq_true_eq]
  by_cases h : fontF a xs = 0
  · obtain ⟨hl, ha, hcs, hr⟩ := font_rises h
    have e := less_loop (a := a) (c := c) hl xs.length k 0 [] (by omega) (Nat.zero_le _) (by omega) (Nat.zero_le _)
    rw [List.drop_zero, List.nil_append] at e
    have e' : spec_l2Less.l0 k c [] 0 a xs = some (xs.filter (fun q => decide (q.f0 ≠ c))) := e
    rw [if_pos h, if_pos h]
    by_cases h2 : isCh c = true ∧ 0 ≤ g ∧ g ≤ 255
    · rw [if_pos h2, if_pos h2, e']
      simp only [Option.bind_some]
      by_cases h3 : 20 ≤ (xs.filter (fun q => decide (q.f0 ≠ c))).length
      · rw [if_pos (by omega), if_pos h3]
      · rw [if_neg (by omega), if_neg h3]
        obtain ⟨p, p2, p3, p4⟩ := hp h h2.1
        obtain ⟨q1, q2, q3⟩ := less_at hr p2 p3 p4
        obtain ⟨w1, w2⟩ := while_at q1 q2 q3
        rw [w1, w2]
        exact put_loop (by omega) q1 q2 q3 p k 0 (by omega) (Nat.zero_le _) (by omega)
    · rw [if_neg h2, if_neg h2]
  · rw [if_neg h, if_neg h]
theorem impl_PutPair_eq {k : Nat} (a : Int) (xs : List S28) (c g : Int) (hk : 200 ≤ k) : impl_PutPair.f k a xs c g = some (putF a xs c g) := by
  unfold impl_PutPair.f putF
  rw [impl_FontFault_eq _ _ (by omega)]
  simp only [Option.bind_some, impl_Pair_ok_eq, impl_unless_eq, decide_eq_true_eq]
  rw [impl_first2 (by omega)]
  simp only [Option.bind_some]
  by_cases h : fontF a xs = 0
  · obtain ⟨hl, ha, hcs, hr⟩ := font_rises h
    rw [if_pos h, if_pos h]
    by_cases h2 : isCh c = true ∧ 0 ≤ g ∧ g ≤ 255
    · rw [if_pos h2, if_pos h2, if_pos rfl]
      obtain ⟨p, p1, p2, p3, p4⟩ := place_eq h c h2.1 (k := k) (by omega)
      obtain ⟨q1, q2, q3⟩ := less_at hr p2 p3 p4
      obtain ⟨w1, w2⟩ := while_at q1 q2 q3
      obtain ⟨f1, f2⟩ := put_place hr p2 p3 p4
      rw [p1, w1, w2]
      simp only [Option.bind_some, impl_Pair_49.f, List.nil_append, List.length_nil, decide_eq_true_eq]
      rw [if_pos (by omega)]
      simp only [Option.bind_some, Int.toNat_natCast]
      by_cases hp : ∃ h : p < xs.length, xs[p].f0 = c
      · obtain ⟨g1, g2⟩ := f1 hp.1 hp.2
        have hb := hp.1
        have t1 : (xs.take p).length = p := by rw [List.length_take]; omega
        rw [if_pos hp, if_pos (by omega), if_pos (by omega), if_neg (by omega), g2, List.take_left' t1, List.drop_left' t1, List.set_eq_take_append_cons_drop, if_pos hb]
        simp
      · have g2 := f2 hp
        rw [if_neg hp, g2]
        by_cases h3 : 20 ≤ xs.length
        · rw [if_pos (by omega), if_pos h3]
        · rw [if_neg (by omega), if_neg h3]
          unfold impl_Pair_51.f
          rw [if_pos (by simp), if_pos (by omega), if_pos (by omega), if_pos (by omega)]
          simp
    · rw [if_neg h2, if_neg h2, if_neg (by decide)]
  · rw [if_neg h, if_neg h, if_neg h]
theorem putF_len (a : Int) (xs : List S28) (c g : Int) : (putF a xs c g).2.2.length ≤ xs.length + 1 := by
  unfold putF
  split
  · split
    · split
      · simp
      · have h1 := List.length_filter_le (fun q : S28 => decide (q.f0 ≠ c)) xs
        have h2 := congrArg List.length (List.takeWhile_append_dropWhile (p := fun q : S28 => decide (q.f0 < c)) (l := xs.filter (fun q => decide (q.f0 ≠ c))))
        rw [List.length_append] at h2
        simp only [List.length_append, List.length_cons, List.length_nil]
        omega
    · simp
  · simp


theorem drawPut_some {k : Nat} (hk : 100 ≤ k) {xs : List Int} (hb : Bs xs) : ∃ (a : Int) (l : List S28) (c g : Int), spec_DrawPutPair.f k xs = some (a, l, c, g) := by
  unfold spec_DrawPutPair.f spec_l1Source.f
  simp only [Option.bind_some]
  obtain ⟨a, l, s, h, h0, h1⟩ := bent_some hk hb
  rw [h]
  simp only [Option.bind_some]
  obtain ⟨v, hv, hvr⟩ := next_some hb h0 (by omega) 40
  rw [hv]
  simp only [Option.bind_some]
  obtain ⟨u, hu, hur⟩ := next_some hb (s := s + 1) (by omega) (by omega) 40
  rw [hu]
  simp only [Option.bind_some]
  obtain ⟨t, ht⟩ := pick_some hb (s := s + 1 + 1) (by omega) (by omega) [wrap64 (60 + v), wrap64 (60 + u), 55296] (by simp)
  rw [ht]
  simp only [Option.bind_some]
  obtain ⟨x, hx, _⟩ := next_some hb (s := s + 1 + 1 + 1) (by omega) (by omega) 5
  rw [hx]
  simp only [Option.bind_some]
  obtain ⟨y, hy⟩ := pick_some hb (s := s + 1 + 1 + 1 + 1) (by omega) (by omega) [x, 255, 256] (by simp)
  rw [hy]
  exact ⟨_, _, _, _, rfl⟩
theorem codeFrom_all (code : Int → Int) : ∀ (d i : Nat), (∀ j : Nat, i ≤ j → j < i + d → code (j : Int) = 0) → codeFrom code d (i : Int) = 0
  | 0, _, _ => rfl
  | d + 1, i, h => by
    rw [codeFrom, if_pos (h i (Nat.le_refl _) (by omega))]
    exact codeFrom_all code d (i + 1) (fun j h1 h2 => h j (by omega) (by omega))
theorem font_zero {a : Int} {xs : List S28} (ha : 0 ≤ a ∧ a ≤ 255) (hl : xs.length ≤ 20) (hc : ∀ q ∈ xs, isCh q.f0 = true ∧ 0 ≤ q.f1 ∧ q.f1 ≤ 255) (hr : xs.Pairwise (fun x y => x.f0 < y.f0)) : fontF a xs = 0 := by
  unfold fontF
  rw [if_pos ha, if_pos hl]
  refine codeFrom_all _ xs.length 0 (fun j _ hj => ?_)
  have hj' : j < xs.length := by omega
  unfold pairC
  rw [rdPairb hj', if_pos (hc _ (List.getElem_mem hj'))]
  by_cases h0 : 0 < j
  · have e : (j : Int) - 1 = ((j - 1 : Nat) : Int) := by omega
    have := (List.pairwise_iff_getElem.1 hr) (j - 1) j (by omega) hj' (by omega)
    rw [e, rdPairb (show j - 1 < xs.length by omega), if_neg (by omega)]
  · rw [if_neg (by omega)]
/-- GlyphOf of a character that no pair has. -/
theorem glyph_none {k : Nat} {a c : Int} {xs : List S28} (h : fontF a xs = 0) (hc : isCh c = true) (hn : ∀ q ∈ xs, q.f0 ≠ c) (hk : 200 ≤ k) : impl_GlyphOf.f k a xs c = some (0, a) := by
  obtain ⟨p, p1, p2, p3, p4⟩ := place_eq h c hc (k := k) (by omega)
  have hp : ¬ ∃ hp : p < xs.length, xs[p].f0 = c := fun ⟨h1, h2⟩ => hn _ (List.getElem_mem h1) h2
  unfold impl_GlyphOf.f
  rw [impl_FontFault_eq _ _ (by omega)]
  simp only [Option.bind_some, impl_isChar_eq, impl_unless_eq]
  rw [impl_first2 (by omega)]
  simp only [Option.bind_some, h, hc, if_true]
  rw [p1]
  simp only [Option.bind_some, decide_eq_true_eq]
  rw [if_neg hp]
theorem fonts_loop {a c g : Int} {l l1 l2 : List S28} (hl : l.length ≤ 20) (f1 : fontF a l1 = 0) (f2 : fontF a l2 = 0) (h1 : ∀ q ∈ l, q.f0 ≠ c → q ∈ l1 ∧ q ∈ l2) (R : Option Bool) (K : Nat) (hK : 300 ≤ K) (x0 : Int)
    (hR : ∀ k, K ≤ k → laws_FnFonts.l0 (k + 1) (l.length : Int) x0 l c g 0 a l1 0 a l2 = R) :
    ∀ (d k i : Nat), l.length - i = d → i ≤ l.length → K + d < k → laws_FnFonts.l0 k (i : Int) x0 l c g 0 a l1 0 a l2 = R := by
  intro d
  induction d with
  | zero =>
    intro k i hd hi hk
    obtain ⟨k, rfl⟩ : ∃ m, k = m + 1 := ⟨k - 1, by omega⟩
    obtain rfl : i = l.length := by omega
    exact hR k (by omega)
  | succ d ih =>
    intro k i hd hi hk
    obtain ⟨k, rfl⟩ : ∃ m, k = m + 1 := ⟨k - 1, by omega⟩
    have hx : i < l.length := by omega
    simp only [laws_FnFonts.l0]
    rw [if_pos (by omega), if_pos (by omega), rdPairb hx, w64n (by omega)]
    by_cases e : l[i].f0 = c
    · rw [if_pos e]
      exact ih k (i + 1) (by omega) (by omega) (by omega)
    · obtain ⟨m1, m2⟩ := h1 _ (List.getElem_mem hx) e
      rw [if_neg e, glyph_own f1 m1 (by omega), glyph_own f2 m2 (by omega)]
      simp only [Option.bind_some, if_true]
      exact ih k (i + 1) (by omega) (by omega) (by omega)
theorem FnFonts : laws_FnFonts.Pure := by
  intro xs hm hb hw
  refine ⟨1000, ?_⟩
  generalize hK : (1000 : Nat) = K
  unfold laws_FnFonts.f laws_lwBig.f
  simp only [Option.bind_some, decide_eq_true_eq]
  by_cases hbig : (xs.length : Int) > 1048576
  · rw [if_pos hbig]
  rw [if_neg hbig]
  have hB : Bs xs := ⟨by omega, fun y hy => wf_u8 (hw y hy)⟩
  obtain ⟨a, l, c, g, h1⟩ := drawPut_some (k := K) (by omega) hB
  rw [h1]
  simp only [Option.bind_some, impl_PutPair_eq _ _ _ _ (show 200 ≤ K by omega)]
  by_cases hz : (putF a l c g).1 = 0
  · rw [if_pos hz]
    have hf : fontF a l = 0 := by
      unfold putF at hz
      split at hz
      · assumption
      · rename_i h
        exact absurd hz h
    have hp : isCh c = true ∧ 0 ≤ g ∧ g ≤ 255 := by
      unfold putF at hz
      rw [if_pos hf] at hz
      split at hz
      · assumption
      · simp at hz
    have hL : ¬ 20 ≤ (l.filter (fun q => decide (q.f0 ≠ c))).length := by
      unfold putF at hz
      rw [if_pos hf, if_pos hp] at hz
      split at hz
      · simp at hz
      · assumption
    obtain ⟨hl, ha, hcs, hr⟩ := font_rises hf
    obtain ⟨p, _, p2, p3, p4⟩ := place_eq hf c hp.1 (k := K) (by omega)
    obtain ⟨q1, q2, q3⟩ := less_at hr p2 p3 p4
    obtain ⟨w1, w2⟩ := while_at q1 q2 q3
    have he : putF a l c g = (0, a, (l.filter (fun q => decide (q.f0 ≠ c))).take p ++ [(⟨c, g⟩ : S28)] ++ (l.filter (fun q => decide (q.f0 ≠ c))).drop p) := by
      unfold putF
      rw [if_pos hf, if_pos hp, if_neg hL, w1, w2]
    have hmemL : ∀ q ∈ l.filter (fun q => decide (q.f0 ≠ c)), q ∈ l ∧ q.f0 ≠ c := fun q hq => by
      have := List.mem_filter.1 hq
      simpa using this
    have hpl : l.Pairwise (fun x y => x.f0 < y.f0) := by
      rw [List.pairwise_iff_getElem]
      intro i j hi hj hij
      exact hr i j hij hj
    have hpL : (l.filter (fun q => decide (q.f0 ≠ c))).Pairwise (fun x y => x.f0 < y.f0) := List.Pairwise.filter _ hpl
    have hins : ∀ q ∈ l, q.f0 ≠ c → q ∈ l.filter (fun q => decide (q.f0 ≠ c)) := fun q hq e => List.mem_filter.2 ⟨hq, by simpa using e⟩
    have hself : (l.filter (fun q => decide (q.f0 ≠ c))).filter (fun q => decide (q.f0 ≠ c)) = l.filter (fun q => decide (q.f0 ≠ c)) := by
      rw [List.filter_eq_self]
      intro q hq
      simpa using (hmemL q hq).2
    rw [he]
    generalize hLL : l.filter (fun q => decide (q.f0 ≠ c)) = L at *
    have hall : ∀ q ∈ l, isCh q.f0 = true ∧ 0 ≤ q.f1 ∧ q.f1 ≤ 255 := fun q hq => by
      obtain ⟨i, hi, rfl⟩ := List.mem_iff_getElem.1 hq
      exact hcs i hi
    have fL : fontF a L = 0 := font_zero ha (by omega) (fun q hq => hall q (hmemL q hq).1) hpL
    have hA : ∀ q ∈ L.take p, q.f0 < c := fun q hq => by
      obtain ⟨i, hi, rfl⟩ := List.mem_iff_getElem.1 hq
      rw [List.length_take] at hi
      rw [List.getElem_take]
      exact q2 i (by omega) (by omega)
    have key : ∀ (j : Nat) (hj : j < L.length), p ≤ j → L[j].f0 ≠ c → c < L[j].f0 := by
      intro j hj hpj hne
      by_cases e : j = p
      · subst e
        have := q3 hj
        omega
      · have h3 := q3 (by omega)
        have := (List.pairwise_iff_getElem.1 hpL) p j (by omega) hj (by omega)
        omega
    have hBq : ∀ q ∈ L.drop p, c < q.f0 := fun q hq => by
      have hne := (hmemL q (List.mem_of_mem_drop hq)).2
      obtain ⟨i, hi, rfl⟩ := List.mem_iff_getElem.1 hq
      rw [List.length_drop] at hi
      rw [List.getElem_drop] at hne ⊢
      exact key _ (by omega) (by omega) hne
    have f1 : fontF a (L.take p ++ [(⟨c, g⟩ : S28)] ++ L.drop p) = 0 := by
      refine font_zero ha (by simp; omega) (fun q hq => ?_) ?_
      · rw [List.append_assoc, List.mem_append, List.mem_append, List.mem_singleton] at hq
        rcases hq with h | rfl | h
        · exact hall q (hmemL q (List.mem_of_mem_take h)).1
        · exact hp
        · exact hall q (hmemL q (List.mem_of_mem_drop h)).1
      · rw [List.append_assoc, List.pairwise_append]
        refine ⟨hpL.sublist (List.take_sublist _ _), ?_, fun x hx y hy => ?_⟩
        · rw [List.singleton_append, List.pairwise_cons]
          exact ⟨fun y hy => hBq y hy, hpL.sublist (List.drop_sublist _ _)⟩
        · have := hA x hx
          rw [List.singleton_append, List.mem_cons] at hy
          rcases hy with rfl | hy
          · exact this
          · have := hBq y hy
            omega
    have hfl : (L.take p ++ [(⟨c, g⟩ : S28)] ++ L.drop p).filter (fun q => decide (q.f0 ≠ c)) = L := by
      have e0 : L.take p ++ L.drop p = L := List.take_append_drop _ _
      rw [List.filter_append, List.filter_append]
      have e1 : (L.take p).filter (fun q => decide (q.f0 ≠ c)) = L.take p := by
        rw [List.filter_eq_self]
        intro q hq
        have := hA q hq
        simp
        omega
      have e2 : (L.drop p).filter (fun q => decide (q.f0 ≠ c)) = L.drop p := by
        rw [List.filter_eq_self]
        intro q hq
        have := hBq q hq
        simp
        omega
      have e3 : [(⟨c, g⟩ : S28)].filter (fun q => decide (q.f0 ≠ c)) = [] := by simp
      rw [e1, e2, e3, List.append_nil, e0]
    have hlen : (L.take p ++ [(⟨c, g⟩ : S28)] ++ L.drop p).length = L.length + 1 := by
      simp
      omega
    have d1 : dropF a (L.take p ++ [(⟨c, g⟩ : S28)] ++ L.drop p) c = (0, a, L) := by
      unfold dropF
      rw [if_pos f1, hfl, if_neg (by omega)]
    have d2 : dropF a L c = (4, 0, []) := by
      unfold dropF
      rw [if_pos fL, hself, if_pos rfl]
    have dd : impl_DropPair.f K a (L.take p ++ [(⟨c, g⟩ : S28)] ++ L.drop p) c = some (0, a, L) := (impl_DropPair_eq _ _ _ (by omega)).trans (congrArg some d1)
    dsimp only
    rw [dd, Option.bind_some]
    dsimp only
    have hm1 : (⟨c, g⟩ : S28) ∈ L.take p ++ [(⟨c, g⟩ : S28)] ++ L.drop p := by simp
    have hg1 : ∀ k, 200 ≤ k → impl_GlyphOf.f k a (L.take p ++ [(⟨c, g⟩ : S28)] ++ L.drop p) c = some (0, g) := fun k hk => glyph_own f1 hm1 hk
    generalize hl1 : L.take p ++ [(⟨c, g⟩ : S28)] ++ L.drop p = l1 at *
    have := fonts_loop (c := c) (g := g) hl f1 fL (fun q hq e => ⟨by
      have hqL := hins q hq e
      rw [← List.take_append_drop p L, List.mem_append] at hqL
      rw [← hl1, List.append_assoc, List.mem_append, List.mem_append]
      rcases hqL with h | h
      · exact .inl h
      · exact .inr (.inr h), hins q hq e⟩) (some true) 400 (by omega) a (fun k hk => by
      simp only [laws_FnFonts.l0]
      rw [if_neg (by omega), impl_FontFault_eq _ _ (by omega)]
      simp only [Option.bind_some]
      rw [if_pos f1, hg1 _ (by omega)]
      simp only [Option.bind_some, if_true]
      rw [glyph_none fL hp.1 (fun q hq => (hmemL q hq).2) (by omega)]
      simp only [Option.bind_some, if_true]
      rw [impl_DropPair_eq _ _ _ (by omega), d2]
      simp only [Option.bind_some, if_true]
      rw [hlen, w64 (by omega)]
      simp) l.length K 0 (by omega) (Nat.zero_le _) (by omega)
    exact this
  · have hs := spec_PutPair_eq (k := K) a l c g (by omega) (fun h1 h2 => by
      obtain ⟨q, _, q2, q3, q4⟩ := place_eq h1 c h2 (k := K) (by omega)
      exact ⟨q, q2, q3, q4⟩)
    unfold spec_FontFault.f
    rw [if_neg hz, hs, impl_FontFault_eq _ _ (by omega), spec_l2Fault_eq _ _ (by omega)]
    simp

end Go.Proofs.Ytpoafgokngpglaa.Pure
