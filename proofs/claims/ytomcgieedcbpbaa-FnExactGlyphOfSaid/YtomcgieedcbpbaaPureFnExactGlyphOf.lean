/- GlyphOf: for every font and every number the program's answer is the reference's, and the font stays as it was. No condition. -/
import Derived.Test.YtomcgieedcbpbaaPFnExactGlyphOfx
import Derived.Test.YtomcgieedcbpbaaPlain
namespace Go.Proofs.Ytomcgieedcbpbaa.Pure
open Go Go.RowKit Go.Proofs.Ytomcgieedcbpbaa.PFnExactGlyphOf Go.Proofs.YtomcgieedcbpbaaW.PrintWords Go.Proofs.YtomcgieedcbpbaaW.PrintLast Go.Proofs.YtomcgieedcbpbaaPlain
set_option linter.unusedVariables false
set_option linter.unusedSimpArgs false

instance : DecidableEq S72 := fun a b => match a, b with
  | ⟨a0, a1⟩, ⟨b0, b1⟩ => decidable_of_iff (a0 = b0 ∧ a1 = b1) (by simp)
instance : DecidableEq S74 := fun a b => match a, b with
  | ⟨a0, a1⟩, ⟨b0, b1⟩ => decidable_of_iff (a0 = b0 ∧ a1 = b1) (by simp)
instance : DecidableEq S53 := fun a b => match a, b with
  | ⟨a0, a1⟩, ⟨b0, b1⟩ => decidable_of_iff (a0 = b0 ∧ a1 = b1) (by simp)

theorem spec_l1In_eq (x a b : Int) : spec_l1In.f x a b = some (decide (a ≤ x ∧ x ≤ b)) := by
  unfold spec_l1In.f
  split <;> (congr 1; simp_all) <;> omega

theorem impl_in_eq (x a b : Int) : impl_in.f x a b = some (decide (a ≤ x ∧ x ≤ b)) := by
  unfold impl_in.f
  split <;> (congr 1; simp_all) <;> omega

theorem spec_l1Char_eq (x : Int) : spec_l1Char.f x = some (isCh x) := by
  unfold spec_l1Char.f isCh
  simp only [spec_l1In_eq, Option.bind_some]
  by_cases h : 0 ≤ x ∧ x ≤ 55295
  · simp [h]
  · rw [if_neg (by simpa using h)]
    congr 1
    simp only [h, false_or]

theorem impl_isChar_eq (x : Int) : impl_isChar.f x = some (isCh x) := by
  unfold impl_isChar.f isCh
  simp only [impl_in_eq, Option.bind_some]
  by_cases h : 0 ≤ x ∧ x ≤ 65535
  · rw [if_pos (by simpa using h), ← decide_not]
    congr 1
    refine decide_eq_decide.2 ?_
    omega
  · rw [if_neg (by simpa using h)]
    congr 1
    symm
    rw [decide_eq_false_iff_not]
    omega

theorem rdPaira {xs : List S72} {i : Nat} (h : i < xs.length) : rd_T72 xs (i : Int) = xs[i] := getD_nat h
def toPair (p : S72) : S74 := ⟨p.f0, p.f1⟩
theorem laws_toPairS_eq {k : Nat} {xs : List S72} (hb : xs.length ≤ 8796093022208) (hk : xs.length < k) : laws_toPairS.f k xs = some (xs.map toPair) := by
  unfold laws_toPairS.f
  rw [if_pos (by omega), if_pos (by omega)]
  exact copy_loop laws_toPairS.l0 toPair rd_T72 (fun a c => c (toPair a)) (fun xs i h => rdPaira h) (fun k xs ys i => by simp only [laws_toPairS.l0, laws_toPair.f, Option.bind_some, toPair]) (fun a c => rfl) (xs := xs) (by omega) _ k 0 (List.replicate ((xs.length : Int)).toNat z74) (by simp) rfl (Nat.zero_le _) hk (by simp)
theorem rdPairb {xs : List S74} {i : Nat} (h : i < xs.length) : rd_T74 xs (i : Int) = xs[i] := getD_nat h
theorem laws_eqPair_eq (a b : S74) : laws_eqPair.f a.f0 a.f1 b.f0 b.f1 = some (decide (a = b)) := by
  unfold laws_eqPair.f
  obtain ⟨a0, a1⟩ := a
  obtain ⟨b0, b1⟩ := b
  by_cases h1 : a0 = b0 <;> by_cases h2 : a1 = b1 <;> simp [h1, h2]
theorem laws_eqPairS_eq {k : Nat} {xs ys : List S74} (hb : xs.length ≤ 4611686018427387904) (hk : xs.length < k) : laws_eqPairS.f k xs ys = some (decide (xs = ys)) :=
  eq_fun (fun hl => eq_loop laws_eqPairS.l0 rd_T74 (fun a b c => if a = b then c else some false) (fun xs i h => rdPairb h) (fun k xs ys i => by simp only [laws_eqPairS.l0, laws_eqPair_eq, Option.bind_some, decide_eq_true_eq]) (fun a b c => rfl) hl hb _ k 0 rfl (Nat.zero_le _) (by omega))
/-- What is left of a size, or -1. -/
theorem laws_szPairS_eq {xs : List S72} {n : Int} (h : (xs.length : Int) ≤ 8796093022208) (hn : n ≤ 1048576) (h0 : -1 ≤ n) : laws_szPairS.f xs n = some (if n - (xs.length : Int) < 0 then -1 else n - (xs.length : Int)) := by
  unfold laws_szPairS.f
  rw [w64 (by omega)]
  split <;> rfl

theorem laws_eqIntResult_eq (a b x y : Int) : laws_eqIntResult.f a x b y = some (decide (a = b ∧ x = y)) := by
  unfold laws_eqIntResult.f
  by_cases h1 : a = b <;> by_cases h2 : x = y <;> simp [h1, h2]

theorem impl_first2 {k : Nat} (hk : 3 ≤ k) (a b : Int) : impl_first.f k [a, b] = some (if a = 0 then b else a) := by
  obtain ⟨k, rfl⟩ : ∃ m, k = m + 3 := ⟨k - 3, by omega⟩
  have w0 : wrap64 1 = 1 := by unfold wrap64; omega
  have w1 : wrap64 2 = 2 := by unfold wrap64; omega
  by_cases h1 : a = 0
  · by_cases h2 : b = 0
    · simp [impl_first.f, impl_first.l0, rd, w0, w1, h1, h2]
    · simp [impl_first.f, impl_first.l0, rd, w0, w1, h1, h2]
  · simp [impl_first.f, impl_first.l0, rd, w0, w1, h1]

theorem impl_unless_eq (b : Bool) (x : Int) : impl_unless.f b x = some (if b = true then 0 else x) := by
  unfold impl_unless.f
  split <;> rfl


theorem spec_l2Pair_eq (a b : Int) : spec_l2Pair.f a b = some (decide (isCh a = true ∧ 0 ≤ b ∧ b ≤ 255)) := by
  unfold spec_l2Pair.f
  simp only [spec_l1In_eq, spec_l1Char_eq, Option.bind_some]
  cases isCh a <;> simp
theorem impl_Pair_ok_eq (a b : Int) : impl_Pair_ok.f a b = some (decide (isCh a = true ∧ 0 ≤ b ∧ b ≤ 255)) := by
  unfold impl_Pair_ok.f
  simp only [impl_in_eq, impl_isChar_eq, Option.bind_some]
  cases isCh a <;> simp
/-- What is wrong with the i-th pair. -/
def pairC (xs : List S74) (i : Int) : Int := if isCh (rd_T74 xs i).f0 = true ∧ 0 ≤ (rd_T74 xs i).f1 ∧ (rd_T74 xs i).f1 ≤ 255 then (if 0 < i ∧ (rd_T74 xs i).f0 ≤ (rd_T74 xs (i - 1)).f0 then 1 else 0) else 3
/-- What is wrong with a font. -/
def fontF (a : Int) (xs : List S74) : Int := if 0 ≤ a ∧ a ≤ 255 then (if xs.length ≤ 20 then codeFrom (pairC xs) xs.length 0 else 2) else 3
theorem spec_l2Fault_eq {k : Nat} (a : Int) (xs : List S74) (hk : 40 ≤ k) : spec_l2Fault.f k a xs = some (fontF a xs) := by
  unfold spec_l2Fault.f fontF
  simp only [spec_l1In_eq, Option.bind_some]
  by_cases h1 : 0 ≤ a ∧ a ≤ 255
  · by_cases h2 : xs.length ≤ 20
    · have h3 : ¬ (xs.length : Int) > 20 := by omega
      have h := code_loop (fun k i => spec_l2Fault.l0 k i a xs) (pairC xs) xs.length 0 (fun k i hk h0 hi => by
        have e1 : wrap64 (i - 1) = i - 1 := w64 (by omega)
        have e2 : wrap64 (i + 1) = i + 1 := w64 (by omega)
        have e3 : i - 1 < (xs.length : Int) := by omega
        simp only [spec_l2Fault.l0, spec_l2Pair_eq, Option.bind_some, if_pos h0, if_pos hi, e1, e2, if_pos e3]
        unfold pairC
        by_cases g1 : isCh (rd_T74 xs i).f0 = true ∧ 0 ≤ (rd_T74 xs i).f1 ∧ (rd_T74 xs i).f1 ≤ 255
        · by_cases g2 : 0 < i
          · have e4 : 0 ≤ i - 1 := by omega
            have e5 : 1 ≤ i := by omega
            by_cases g3 : (rd_T74 xs i).f0 ≤ (rd_T74 xs (i - 1)).f0 <;> simp [g1, g2, g3, e4, e5]
          · simp [g1, g2]
        · simp [g1]) (fun k hk => by simp only [spec_l2Fault.l0]; rw [if_neg (by omega)]) xs.length k 0 (by omega) (by omega) (by omega)
      simp only [h1, and_self, decide_true, if_true, if_neg h3, if_pos h2]
      exact h
    · have h3 : (xs.length : Int) > 20 := by omega
      simp only [h1, and_self, decide_true, if_true, if_pos h3, if_neg h2]
  · simp [h1]
theorem impl_FontFault_eq {k : Nat} (a : Int) (xs : List S74) (hk : 40 ≤ k) : impl_FontFault.f k a xs = some (fontF a xs) := by
  unfold impl_FontFault.f fontF
  simp only [impl_in_eq, impl_unless_eq, Option.bind_some]
  rw [impl_first2 (by omega)]
  simp only [Option.bind_some]
  by_cases h1 : 0 ≤ a ∧ a ≤ 255
  · by_cases h2 : xs.length ≤ 20
    · have h3 : (xs.length : Int) ≤ 20 := by omega
      have h := code_loop (fun k i => impl_FontFault.l0 k xs (xs.length : Int) i a xs) (pairC xs) xs.length 5 (fun k i hk h0 hi => by
        have e1 : wrap64 (i - 1) = i - 1 := w64 (by omega)
        have e2 : wrap64 (i + 1) = i + 1 := w64 (by omega)
        have e3 : i - 1 < (xs.length : Int) := by omega
        simp only [impl_FontFault.l0, impl_Pair_ok_eq, impl_unless_eq, Option.bind_some, if_pos h0, if_pos hi, e1, e2, if_pos e3]
        rw [impl_first2 (by omega)]
        unfold pairC
        by_cases g1 : isCh (rd_T74 xs i).f0 = true ∧ 0 ≤ (rd_T74 xs i).f1 ∧ (rd_T74 xs i).f1 ≤ 255
        · by_cases g2 : i = 0
          · subst g2
            simp [g1]
          · have e4 : 0 ≤ i - 1 := by omega
            have e5 : 1 ≤ i := by omega
            have e6 : 0 < i := by omega
            rw [impl_first2 (by omega)]
            by_cases g3 : (rd_T74 xs i).f0 ≤ (rd_T74 xs (i - 1)).f0
            · have g4 : ¬ (rd_T74 xs i).f0 > (rd_T74 xs (i - 1)).f0 := by omega
              simp [g1, g2, g3, g4, e4, e5, e6]
            · have g4 : (rd_T74 xs i).f0 > (rd_T74 xs (i - 1)).f0 := by omega
              simp [g1, g2, g3, g4, e4, e5]
        · by_cases g2 : i = 0
          · subst g2
            simp [g1]
          · have e4 : 0 ≤ i - 1 := by omega
            have e5 : 1 ≤ i := by omega
            rw [impl_first2 (by omega)]
            simp [g1, g2, e4, e5]) (fun k hk => by simp only [impl_FontFault.l0]; rw [if_neg (by omega)]) xs.length k 0 (by omega) (by omega) (by omega)
      simp only [h1, and_self, decide_true, if_true, h3, if_pos h2]
      exact h
    · have h3 : ¬ (xs.length : Int) ≤ 20 := by omega
      simp [h1, h2, h3]
  · simp [h1]


theorem laws_szFont_ex {a : Int} {xs} {n : Int} (h : (List.length xs : Int) ≤ 8796093022208) (hn : n ≤ 1048576) (h0 : 0 ≤ n) : ∃ t : Int, laws_szFont.f a xs n = some t ∧ (t = -1 ∨ (t = n - (List.length xs : Int) ∧ 0 ≤ t)) := by
  unfold laws_szFont.f
  rw [laws_szPairS_eq h hn (by omega)]
  simp only [Option.bind_some]
  by_cases g : n - (List.length xs : Int) < 0
  · exact ⟨-1, by simp [g], .inl rfl⟩
  · exact ⟨n - (List.length xs : Int), by simp [g], .inr ⟨rfl, by omega⟩⟩

theorem laws_toFont_eq {k : Nat} {a : Int} {xs} (hb : List.length xs ≤ 8796093022208) (hk : List.length xs < k) : laws_toFont.f k a xs = some (a, xs.map toPair) := by
  unfold laws_toFont.f
  rw [laws_toPairS_eq hb hk]
  rfl

theorem laws_eqFont_eq {k : Nat} {a b : Int} {xs ys} (hb : List.length xs ≤ 4611686018427387904) (hk : List.length xs < k) : laws_eqFont.f k a xs b ys = some (decide (a = b ∧ xs = ys)) := by
  unfold laws_eqFont.f
  rw [laws_eqPairS_eq hb hk]
  simp only [Option.bind_some]
  by_cases h1 : a = b <;> by_cases h2 : xs = ys <;> simp [h1, h2]


theorem spec_l2Glyph_loop (a x : Int) (xs : List S74) (hb : xs.length ≤ 1000) (d : Nat) : ∀ (k i : Nat), xs.length - i = d → i ≤ xs.length → d < k →
    spec_l2Glyph.l0 k x (i : Int) a xs = some (((xs.drop i).find? (fun p => decide (p.f0 = x))).elim a (·.f1)) := by
  induction d with
  | zero =>
    intro k i hd hi hk
    obtain ⟨k, rfl⟩ : ∃ m, k = m + 1 := ⟨k - 1, by omega⟩
    simp only [spec_l2Glyph.l0]
    rw [if_neg (by omega), List.drop_eq_nil_of_le (by omega)]
    rfl
  | succ d ih =>
    intro k i hd hi hk
    obtain ⟨k, rfl⟩ : ∃ m, k = m + 1 := ⟨k - 1, by omega⟩
    have hx : i < xs.length := by omega
    simp only [spec_l2Glyph.l0]
    rw [if_pos (by omega), if_pos (by omega), rdPairb hx, w64n (by omega), List.drop_eq_getElem_cons hx, List.find?_cons]
    by_cases g : xs[i].f0 = x
    · rw [if_pos g]
      simp [g]
    · rw [if_neg g, ih k (i + 1) (by omega) (by omega) (by omega)]
      simp [g]
theorem spec_l2Glyph_eq {k : Nat} (a x : Int) (xs : List S74) (hb : xs.length ≤ 20) (hk : 40 ≤ k) : spec_l2Glyph.f k a xs x = some ((xs.find? (fun p => decide (p.f0 = x))).elim a (·.f1)) :=
  spec_l2Glyph_loop a x xs (by omega) xs.length k 0 rfl (Nat.zero_le _) (by omega)
/-- A font without a fault: its pairs rise, and are characters. -/
theorem font_rises {a : Int} {xs : List S74} (h : fontF a xs = 0) : xs.length ≤ 20 ∧ (0 ≤ a ∧ a ≤ 255) ∧ (∀ (i : Nat) (hi : i < xs.length), isCh xs[i].f0 = true ∧ 0 ≤ xs[i].f1 ∧ xs[i].f1 ≤ 255) ∧ (∀ (i j : Nat) (hi : i < j) (hj : j < xs.length), xs[i].f0 < xs[j].f0) := by
  unfold fontF at h
  by_cases h1 : 0 ≤ a ∧ a ≤ 255
  · rw [if_pos h1] at h
    by_cases h2 : xs.length ≤ 20
    · rw [if_pos h2] at h
      have hz := codeFrom_zero (pairC xs) xs.length 0 h
      have hz' : ∀ i : Nat, (hi : i < xs.length) → (isCh xs[i].f0 = true ∧ 0 ≤ xs[i].f1 ∧ xs[i].f1 ≤ 255) ∧ (∀ h0 : 0 < i, xs[i - 1].f0 < xs[i].f0) := by
        intro i hi
        have := hz i (by omega) (by omega)
        unfold pairC at this
        rw [rdPairb hi] at this
        by_cases g1 : isCh xs[i].f0 = true ∧ 0 ≤ xs[i].f1 ∧ xs[i].f1 ≤ 255
        · rw [if_pos g1] at this
          refine ⟨g1, fun h0 => ?_⟩
          have e : ((i : Int) - 1) = ((i - 1 : Nat) : Int) := by omega
          rw [e, rdPairb (by omega)] at this
          by_cases g2 : 0 < (i : Int) ∧ xs[i].f0 ≤ xs[i - 1].f0
          · rw [if_pos g2] at this
            omega
          · omega
        · rw [if_neg g1] at this
          omega
      refine ⟨h2, h1, fun i hi => (hz' i hi).1, fun i j hij hj => ?_⟩
      obtain ⟨d, rfl⟩ : ∃ d, j = i + 1 + d := ⟨j - i - 1, by omega⟩
      induction d with
      | zero =>
        have := (hz' (i + 1) hj).2 (by omega)
        simpa using this
      | succ d ih =>
        have h3 := ih (by omega) (by omega)
        have h4 := (hz' (i + 1 + (d + 1)) hj).2 (by omega)
        have e : i + 1 + (d + 1) - 1 = i + 1 + d := by omega
        simp only [e] at h4
        omega
    · rw [if_neg h2] at h
      omega
  · rw [if_neg h1] at h
    omega
/-- Where a character's pair is, or would be. -/
theorem place_eq {k : Nat} {a : Int} {xs : List S74} (h : fontF a xs = 0) (x : Int) (hx : isCh x = true) (hk : 100 ≤ k) :
    ∃ p : Nat, impl_Font_place.f k a xs x = some ((p : Int), decide (∃ h : p < xs.length, xs[p].f0 = x)) ∧ p ≤ xs.length ∧ (∀ (m : Nat) (hm : m < xs.length), m < p → xs[m].f0 < x) ∧ (∀ (m : Nat) (hm : m < xs.length), p ≤ m → x ≤ xs[m].f0) := by
  obtain ⟨hl, ha, hc, hr⟩ := font_rises h
  rw [isCh_iff] at hx
  have hd : ∀ (i : Nat) (hi : i < xs.length), wrap64 ((rd_T74 xs (i : Int)).f0 - x) = xs[i].f0 - x := by
    intro i hi
    rw [rdPairb hi]
    have := (hc i hi).1
    rw [isCh_iff] at this
    exact w64 (by omega)
  obtain ⟨p, h1, h2, h3, h4⟩ := bs_loop (fun k i j => impl_Pair_int64.l0 k xs x (xs.length : Int) i j) (fun i => wrap64 ((rd_T74 xs i).f0 - x)) xs.length 0
    (fun k i j _ h0 hij hj => by
      simp only [impl_Pair_int64.l0, impl_Font_place_1.f, Option.bind_some]
      rw [if_pos hij, mid_eq h0 (by omega) (by omega), if_pos (by omega), if_pos (by omega), w64 (x := (i + j) / 2 + 1) (by omega)])
    (fun k i _ h0 hi => by
      simp only [impl_Pair_int64.l0, impl_Font_place_1.f, Option.bind_some]
      rw [if_neg (by omega)]
      by_cases g : i < (xs.length : Int)
      · simp only [g, h0, if_true]
      · simp only [g, if_false])
    (fun i j h0 hij hj hlt => by
      obtain ⟨i, rfl⟩ := Int.eq_ofNat_of_zero_le h0
      obtain ⟨j, rfl⟩ := Int.eq_ofNat_of_zero_le (show 0 ≤ j by omega)
      rw [hd j (by omega)] at hlt
      rw [hd i (by omega)]
      by_cases e : i = j
      · subst e; exact hlt
      · have := hr i j (by omega) (by omega)
        omega)
    xs.length k 0 (xs.length : Int) (by omega) (by omega) (by omega) (by omega) (fun m h1 h2 => by omega) (fun m h1 h2 => by omega) (by omega)
  refine ⟨p, ?_, h2, fun m hm hmp => ?_, fun m hm hpm => ?_⟩
  · unfold impl_Font_place.f impl_Pair_int64.f
    rw [h1]
    simp only [Option.bind_some]
    congr 2
    refine decide_eq_decide.2 ?_
    constructor
    · rintro ⟨g1, g2⟩
      rw [hd p g1] at g2
      exact ⟨g1, by omega⟩
    · rintro ⟨g1, g2⟩
      refine ⟨g1, ?_⟩
      rw [hd p g1]
      omega
  · have := h3 m hmp
    rw [hd m hm] at this
    omega
  · have := h4 m hpm hm
    rw [hd m hm] at this
    omega
/-- What the search finds is what the list's first pair of that character is. -/
theorem place_find {a : Int} {xs : List S74} (h : fontF a xs = 0) {x : Int} {p : Nat} (h1 : ∀ (m : Nat) (hm : m < xs.length), m < p → xs[m].f0 < x) :
    (∀ (hp : p < xs.length), xs[p].f0 = x → xs.find? (fun q => decide (q.f0 = x)) = some xs[p]) ∧ ((∀ (m : Nat) (hm : m < xs.length), p ≤ m → x ≤ xs[m].f0) → ¬ (∃ hp : p < xs.length, xs[p].f0 = x) → xs.find? (fun q => decide (q.f0 = x)) = none) := by
  obtain ⟨hl, ha, hc, hr⟩ := font_rises h
  constructor
  · intro hp e
    rw [List.find?_eq_some_iff_getElem]
    refine ⟨by simpa using e, p, hp, rfl, fun j hj => ?_⟩
    have := h1 j (by omega) hj
    simp
    omega
  · intro h2 hn
    rw [List.find?_eq_none]
    intro q hq
    obtain ⟨i, hi, rfl⟩ := List.mem_iff_getElem.1 hq
    simp only [decide_eq_true_eq]
    intro e
    rcases Nat.lt_or_ge i p with g | g
    · have := h1 i hi g
      omega
    · by_cases e2 : i = p
      · subst e2
        exact hn ⟨hi, e⟩
      · have g3 := hr p i (by omega) hi
        have g4 := h2 p (by omega) (Nat.le_refl _)
        omega


theorem FnExactGlyphOf : ∀ (x0 : S53) (x1 : Int), (((Lit.int .i64 x0.f0).wf = true) ∧ (x0.f1.length ≤ maxLen ∧ x0.f1.length * 16 ≤ 140737488351232 ∧ ∀ y ∈ x0.f1, ((Lit.int .i64 y.f0).wf = true) ∧ ((Lit.int .i64 y.f1).wf = true))) → ((Lit.int .i64 x1).wf = true) → ∃ k, laws_FnExactGlyphOf.f k x0.f0 x0.f1 x1 = some true := by
  intro x c hx hc
  obtain ⟨_, hm, hb, hw⟩ := hx
  refine ⟨x.f1.length + 200, ?_⟩
  generalize hK : x.f1.length + 200 = K
  unfold laws_FnExactGlyphOf.f
  obtain ⟨t, ht, h⟩ := laws_szFont_ex (a := x.f0) (xs := x.f1) (n := 1048576) (by omega) (by omega) (by omega)
  rw [ht]
  simp only [Option.bind_some]
  rcases h with rfl | ⟨h, h0⟩
  · simp
  rw [if_neg (by omega), laws_toFont_eq (by omega) (by omega)]
  simp only [Option.bind_some]
  obtain ⟨q, g1, g2⟩ : ∃ q : Int × Int, spec_GlyphOf.f K x.f0 (x.f1.map toPair) c = some q ∧ impl_GlyphOf.f K x.f0 (x.f1.map toPair) c = some q := by
    unfold spec_GlyphOf.f impl_GlyphOf.f
    rw [spec_l2Fault_eq _ _ (by omega), impl_FontFault_eq _ _ (by omega)]
    simp only [Option.bind_some, spec_l1Char_eq, impl_isChar_eq, impl_unless_eq]
    rw [impl_first2 (by omega)]
    simp only [Option.bind_some]
    generalize hxs : x.f1.map toPair = xs
    by_cases hf : fontF x.f0 xs = 0
    · rw [if_pos hf, if_pos hf]
      by_cases hcc : isCh c = true
      · rw [if_pos hcc, if_pos hcc, if_pos rfl]
        obtain ⟨hl, _⟩ := font_rises hf
        obtain ⟨p, p1, p2, p3, p4⟩ := place_eq hf c hcc (k := K) (by omega)
        obtain ⟨f1, f2⟩ := place_find hf p3
        rw [spec_l2Glyph_eq _ _ _ hl (by omega), p1]
        simp only [Option.bind_some, decide_eq_true_eq]
        by_cases hp : ∃ h : p < xs.length, xs[p].f0 = c
        · rw [if_pos hp]
          obtain ⟨hp1, hp2⟩ := hp
          rw [if_pos (by omega), if_pos (by omega), rdPairb hp1, f1 hp1 hp2]
          exact ⟨_, rfl, rfl⟩
        · rw [if_neg hp, f2 p4 hp]
          exact ⟨_, rfl, rfl⟩
      · rw [if_neg hcc, if_neg hcc, if_neg (by decide)]
        exact ⟨_, rfl, rfl⟩
    · rw [if_neg hf, if_neg hf, if_neg hf]
      exact ⟨_, rfl, rfl⟩
  rw [g1, g2]
  simp only [Option.bind_some]
  rw [laws_eqIntResult_eq, laws_eqFont_eq (by simp; omega) (by simp; omega)]
  simp

end Go.Proofs.Ytomcgieedcbpbaa.Pure
