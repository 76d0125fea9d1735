/- Plain laws on the loops that the printed helpers of every statement are made of: comparing two lists, copying one, marking one and reading the marks. -/
import Derived.Test.YtckgkblpbfckdaaQgWords
import Derived.Laws.BitsLemmas
namespace Go.Proofs.YtckgkblpbfckdaaPlain
open Go Go.RowKit Go.Proofs.YtckgkblpbfckdaaW.PrintWords Go.Proofs.YtckgkblpbfckdaaW.PrintLast

theorem w64 {x : Int} (h : -9223372036854775808 ≤ x ∧ x ≤ 9223372036854775807) : wrap64 x = x := by
  unfold wrap64; omega
theorem w64n {n : Nat} (h : n ≤ 9000000000000000000) : wrap64 ((n : Int) + 1) = ((n + 1 : Nat) : Int) := by
  rw [w64 (by omega)]; omega
theorem wf_i64 {x : Int} (h : (Lit.int .i64 x).wf = true) : -9223372036854775808 ≤ x ∧ x ≤ 9223372036854775807 := by
  simp [Lit.wf, IntKind.min, IntKind.max, IntKind.signed, IntKind.bits] at h
  omega
theorem wf_u8 {x : Int} (h : (Lit.int .u8 x).wf = true) : 0 ≤ x ∧ x ≤ 255 := by
  simp [Lit.wf, IntKind.min, IntKind.max, IntKind.signed, IntKind.bits] at h
  omega
theorem rd_nat {xs : List Int} {i : Nat} (h : i < xs.length) : rd xs (i : Int) = xs[i] := by
  unfold rd
  rw [Int.toNat_natCast, List.getD_eq_getElem?_getD, List.getElem?_eq_getElem h]
  rfl
theorem rdOf_nat {α : Type} {d : α} {xs : List α} {i : Nat} (h : i < xs.length) : rdOf d xs (i : Int) = xs[i] := by
  unfold rdOf
  rw [Int.toNat_natCast, List.getD_eq_getElem?_getD, List.getElem?_eq_getElem h]
  rfl
theorem getD_nat {α : Type} {d : α} {xs : List α} {i : Nat} (h : i < xs.length) : xs.getD ((i : Int)).toNat d = xs[i] := rdOf_nat h

theorem i64_and63 (n : Int) : bits .and .i64 n 63 = n % 64 := by
  have h63 : (BitVec.ofInt 64 63).toNat = 2 ^ 6 - 1 := by decide
  have key : (BitVec.ofInt 64 n &&& BitVec.ofInt 64 63).toNat = (n % ((2 ^ 64 : Nat) : Int)).toNat % 2 ^ 6 := by
    rw [BitVec.toNat_and, BitVec.toNat_ofInt, h63, Nat.and_two_pow_sub_one_eq_mod]
  show IntKind.i64.wrap ((BitVec.ofInt 64 n &&& BitVec.ofInt 64 63).toNat : Nat) = n % 64
  rw [key, IntKind.wrap_i64]
  omega
/-- A number by one bit: nothing, or the bit. -/
theorem and_bit (w : Int) (i : Nat) (hi : i < 62) : bits .and .i64 w (2 ^ i) = 0 ∨ bits .and .i64 w (2 ^ i) = 2 ^ i := by
  have e : BitVec.ofInt 64 ((2 : Int) ^ i) = BitVec.twoPow 64 i := by
    apply BitVec.eq_of_toNat_eq
    rw [BitVec.toNat_ofInt, BitVec.toNat_twoPow]
    have h1 : ((2 : Int) ^ i) = ((2 ^ i : Nat) : Int) := by simp
    have h2 : (2 : Nat) ^ i < 2 ^ 64 := Nat.pow_lt_pow_right (by decide) (by omega)
    rw [h1]
    omega
  show IntKind.i64.wrap ((BitVec.ofInt 64 w &&& BitVec.ofInt 64 (2 ^ i)).toNat : Nat) = 0 ∨ IntKind.i64.wrap ((BitVec.ofInt 64 w &&& BitVec.ofInt 64 (2 ^ i)).toNat : Nat) = 2 ^ i
  rw [e, BitVec.and_twoPow]
  have h2 : (2 : Nat) ^ i < 2 ^ 62 := Nat.pow_lt_pow_right (by decide) (by omega)
  have h1 : ((2 : Int) ^ i) = ((2 ^ i : Nat) : Int) := by simp
  split
  · right
    have h3 : (2 : Nat) ^ i % 2 ^ 64 = 2 ^ i := Nat.mod_eq_of_lt (by omega)
    rw [BitVec.toNat_twoPow, IntKind.wrap_i64, h1, h3]
    omega
  · left
    rw [IntKind.wrap_i64]
    simp
/-- Is it a character? -/
def isCh (c : Int) : Bool := decide ((0 ≤ c ∧ c ≤ 55295) ∨ (57344 ≤ c ∧ c ≤ 65535))
theorem isCh_iff {c : Int} : isCh c = true ↔ (0 ≤ c ∧ c ≤ 55295) ∨ (57344 ≤ c ∧ c ≤ 65535) := by unfold isCh; exact decide_eq_true_iff
/-- The first number that is not 0. -/
def firstOf (l : List Int) : Int := (l.find? (fun x => decide (x ≠ 0))).getD 0
/-- 0, or a code. -/
def unl (b : Bool) (c : Int) : Int := if b = true then 0 else c

/-- Comparing element by element. -/
theorem eq_loop {α : Type} [DecidableEq α] (l : Nat → List α → List α → Int → Option Bool) (rdf : List α → Int → α) (T : α → α → Option Bool → Option Bool)
    (hr : ∀ (xs : List α) (i : Nat) (h : i < xs.length), rdf xs (i : Int) = xs[i])
    (hs : ∀ k xs ys i, l (k + 1) xs ys i = if i < (xs.length : Int) then (if 0 ≤ i then (if i < (ys.length : Int) then T (rdf xs i) (rdf ys i) (l k xs ys (wrap64 (i + 1))) else none) else none) else some true)
    (hT : ∀ a b c, T a b c = if a = b then c else some false)
    {xs ys : List α} (hl : xs.length = ys.length) (hb : xs.length ≤ 4611686018427387904) : ∀ (d k i : Nat), xs.length - i = d → i ≤ xs.length → d < k → l k xs ys (i : Int) = some (decide (xs.drop i = ys.drop i)) := by
  intro d
  induction d with
  | zero =>
    intro k i hd hi hk
    obtain ⟨k, rfl⟩ : ∃ m, k = m + 1 := ⟨k - 1, by omega⟩
    rw [hs, if_neg (by omega), List.drop_eq_nil_of_le (by omega), List.drop_eq_nil_of_le (by omega)]
    simp
  | succ d ih =>
    intro k i hd hi hk
    obtain ⟨k, rfl⟩ : ∃ m, k = m + 1 := ⟨k - 1, by omega⟩
    have hx : i < xs.length := by omega
    have hy : i < ys.length := by omega
    rw [hs, if_pos (by omega), if_pos (by omega), if_pos (by omega), hr xs i hx, hr ys i hy, hT, w64n (by omega), List.drop_eq_getElem_cons hx, List.drop_eq_getElem_cons hy]
    by_cases e : xs[i] = ys[i]
    · rw [if_pos e, ih k (i + 1) (by omega) (by omega) (by omega), e]
      congr 1
      simp only [List.cons.injEq, true_and]
    · rw [if_neg e]
      simp only [List.cons.injEq, e, false_and, decide_false]
theorem eq_fun {α : Type} [DecidableEq α] {l : Nat → List α → List α → Int → Option Bool} {k : Nat} {xs ys : List α} (h : xs.length = ys.length → l k xs ys ((0 : Nat) : Int) = some (decide (xs.drop 0 = ys.drop 0))) :
    (if (xs.length : Int) = (ys.length : Int) then l k xs ys 0 else some false) = some (decide (xs = ys)) := by
  by_cases e : xs.length = ys.length
  · rw [if_pos (by omega)]
    have := h e
    simpa using this
  · rw [if_neg (by omega)]
    have : xs ≠ ys := fun h => e (by rw [h])
    simp [this]

/-- Copying element by element into a list of the same length. -/
theorem copy_loop {α β : Type} (l : Nat → List α → List β → Int → Option (List β)) (f : α → β) (rdf : List α → Int → α) (T : α → (β → Option (List β)) → Option (List β))
    (hr : ∀ (xs : List α) (i : Nat) (h : i < xs.length), rdf xs (i : Int) = xs[i])
    (hs : ∀ k xs ys i, l (k + 1) xs ys i = if i < (xs.length : Int) then (if 0 ≤ i then T (rdf xs i) (fun b => if i < (ys.length : Int) then l k xs (ys.set (i : Int).toNat b) (wrap64 (i + 1)) else none) else none) else some ys)
    (hT : ∀ a c, T a c = c (f a))
    {xs : List α} (hb : xs.length ≤ 4611686018427387904) : ∀ (d k i : Nat) (ys : List β), xs.length = ys.length → xs.length - i = d → i ≤ xs.length → d < k → ys.take i = (xs.take i).map f → l k xs ys (i : Int) = some (xs.map f) := by
  intro d
  induction d with
  | zero =>
    intro k i ys hl hd hi hk hp
    obtain ⟨k, rfl⟩ : ∃ m, k = m + 1 := ⟨k - 1, by omega⟩
    rw [hs, if_neg (by omega)]
    rw [List.take_of_length_le (by omega), List.take_of_length_le (by omega)] at hp
    rw [hp]
  | succ d ih =>
    intro k i ys hl hd hi hk hp
    obtain ⟨k, rfl⟩ : ∃ m, k = m + 1 := ⟨k - 1, by omega⟩
    have hx : i < xs.length := by omega
    rw [hs, if_pos (by omega), if_pos (by omega), hT, if_pos (by omega), hr xs i hx, w64n (by omega), Int.toNat_natCast]
    refine ih k (i + 1) _ (by rw [List.length_set]; exact hl) (by omega) (by omega) (by omega) ?_
    rw [List.take_succ_eq_append_getElem (by rw [List.length_set]; omega), List.take_succ_eq_append_getElem hx, List.take_set_of_le (Nat.le_refl _), hp, List.map_append]
    simp only [List.getElem_set_self, List.map_cons, List.map_nil]

/-- The marks that are laid from x on, each c further. -/
def marks {α : Type} (put : Int → α) (c : Int) : Nat → Int → List α
  | 0, _ => []
  | n + 1, x => put x :: marks put c n (x + c)
theorem marks_length {α : Type} (put : Int → α) (c : Int) : ∀ n x, (marks put c n x).length = n
  | 0, _ => rfl
  | n + 1, x => by rw [marks, List.length_cons, marks_length put c n]
theorem mark_loop {α : Type} (l : Nat → List α → Int → Int → Option (Int × List α)) (put : Int → α) (c : Int) (hc : 0 ≤ c)
    (hs : ∀ k xs x i, l (k + 1) xs x i = if i < (xs.length : Int) then (if 0 ≤ i then l k (xs.set (i : Int).toNat (put x)) (wrap64 (x + c)) (wrap64 (i + 1)) else none) else some (x, xs)) :
    ∀ (d k i : Nat) (x : Int) (xs : List α), xs.length ≤ 4611686018427387904 → xs.length - i = d → i ≤ xs.length → d < k → 0 ≤ x → x + c * d ≤ 9223372036854775807 → l k xs x (i : Int) = some (x + c * d, xs.take i ++ marks put c d x) := by
  intro d
  induction d with
  | zero =>
    intro k i x xs hb hd hi hk h0 hx
    obtain ⟨k, rfl⟩ : ∃ m, k = m + 1 := ⟨k - 1, by omega⟩
    rw [hs, if_neg (by omega), List.take_of_length_le (by omega)]
    simp [marks]
  | succ d ih =>
    intro k i x xs hb hd hi hk h0 hx
    obtain ⟨k, rfl⟩ : ∃ m, k = m + 1 := ⟨k - 1, by omega⟩
    have hlt : i < xs.length := by omega
    have e1 : c * ((d + 1 : Nat) : Int) = c + c * (d : Int) := by
      rw [Int.natCast_add, Int.mul_add]
      omega
    rw [e1] at hx ⊢
    have h1 : 0 ≤ c * (d : Int) := Int.mul_nonneg hc (by omega)
    rw [hs, if_pos (by omega), if_pos (by omega), w64 (by omega), w64n (by omega), Int.toNat_natCast, ih k (i + 1) (x + c) _ (by rw [List.length_set]; exact hb) (by rw [List.length_set]; omega) (by rw [List.length_set]; omega) (by omega) (by omega) (by omega)]
    have e2 : (xs.set i (put x)).take (i + 1) = xs.take i ++ [put x] := by
      rw [List.take_succ_eq_append_getElem (by rw [List.length_set]; omega), List.take_set_of_le (Nat.le_refl _)]
      simp
    rw [e2, marks, List.append_assoc, List.singleton_append]
    congr 2
    omega
theorem held_loop {α : Type} (l : Nat → List α → Int → Int → Option Int) (rdf : List α → Int → α) (T : α → Int → Option Int → Option Int) (put : Int → α) (c : Int) (hc : 0 ≤ c)
    (hr : ∀ (xs : List α) (i : Nat) (h : i < xs.length), rdf xs (i : Int) = xs[i])
    (hs : ∀ k xs x i, l (k + 1) xs x i = if i < (xs.length : Int) then (if 0 ≤ i then T (rdf xs i) x (l k xs (wrap64 (x + c)) (wrap64 (i + 1))) else none) else some x)
    (hT : ∀ x o, 0 ≤ x → x + c ≤ 9223372036854775807 → T (put x) x o = o) :
    ∀ (d k i : Nat) (x : Int) (p : List α), p.length = i → i + d ≤ 4611686018427387904 → d < k → 0 ≤ x → x + c * d ≤ 9223372036854775807 → l k (p ++ marks put c d x) x (i : Int) = some (x + c * d) := by
  intro d
  induction d with
  | zero =>
    intro k i x p hp hb hk h0 hx
    obtain ⟨k, rfl⟩ : ∃ m, k = m + 1 := ⟨k - 1, by omega⟩
    rw [hs, if_neg (by simp [marks]; omega)]
    simp
  | succ d ih =>
    intro k i x p hp hb hk h0 hx
    obtain ⟨k, rfl⟩ : ∃ m, k = m + 1 := ⟨k - 1, by omega⟩
    have e1 : c * ((d + 1 : Nat) : Int) = c + c * (d : Int) := by
      rw [Int.natCast_add, Int.mul_add]
      omega
    rw [e1] at hx ⊢
    have h1 : 0 ≤ c * (d : Int) := Int.mul_nonneg hc (by omega)
    have hlt : i < (p ++ marks put c (d + 1) x).length := by rw [List.length_append, marks_length]; omega
    have hg : (p ++ marks put c (d + 1) x)[i] = put x := by
      rw [List.getElem_append_right (by omega)]
      simp [marks, hp]
    rw [hs, if_pos (by omega), if_pos (by omega), hr _ i hlt, hg, hT x _ h0 (by omega), w64 (by omega), w64n (by omega)]
    have e2 : p ++ marks put c (d + 1) x = (p ++ [put x]) ++ marks put c d (x + c) := by simp [marks]
    rw [e2, ih k (i + 1) (x + c) (p ++ [put x]) (by simp [hp]) (by omega) (by omega) (by omega) (by omega)]
    congr 1
    omega
/-- The first code that is not 0, from i on, d places. -/
def codeFrom (code : Int → Int) : Nat → Int → Int
  | 0, _ => 0
  | d + 1, i => if code i = 0 then codeFrom code d (i + 1) else code i
theorem codeFrom_zero (code : Int → Int) : ∀ (d i : Nat), codeFrom code d (i : Int) = 0 → ∀ j : Nat, i ≤ j → j < i + d → code (j : Int) = 0
  | 0, i, _, j, h1, h2 => by omega
  | d + 1, i, h, j, h1, h2 => by
    unfold codeFrom at h
    by_cases e : code (i : Int) = 0
    · rw [if_pos e] at h
      by_cases hj : j = i
      · rw [hj]; exact e
      · have e1 : (i : Int) + 1 = ((i + 1 : Nat) : Int) := by omega
        rw [e1] at h
        exact codeFrom_zero code d (i + 1) h j (by omega) (by omega)
    · rw [if_neg e] at h
      exact absurd h e
/-- A loop that stops at the first code that is not 0. -/
theorem code_loop (A : Nat → Int → Option Int) (code : Int → Int) (n K : Nat)
    (hs : ∀ (k : Nat) (i : Int), K ≤ k → 0 ≤ i → i < (n : Int) → A (k + 1) i = if code i = 0 then A k (i + 1) else some (code i))
    (he : ∀ k : Nat, K ≤ k → A (k + 1) (n : Int) = some 0) :
    ∀ (d k i : Nat), n - i = d → i ≤ n → K + d < k → A k (i : Int) = some (codeFrom code d (i : Int)) := by
  intro d
  induction d with
  | zero =>
    intro k i hd hi hk
    obtain ⟨k, rfl⟩ : ∃ m, k = m + 1 := ⟨k - 1, by omega⟩
    obtain rfl : i = n := by omega
    rw [he k (by omega)]
    rfl
  | succ d ih =>
    intro k i hd hi hk
    obtain ⟨k, rfl⟩ : ∃ m, k = m + 1 := ⟨k - 1, by omega⟩
    rw [hs k i (by omega) (by omega) (by omega)]
    unfold codeFrom
    have e1 : (i : Int) + 1 = ((i + 1 : Nat) : Int) := by omega
    rw [e1, ih k (i + 1) (by omega) (by omega) (by omega)]
    split <;> rfl
/-- Is there one, element by element: its place, or -1. -/
theorem index_loop {α : Type} (l : Nat → List α → Int → Int → Option Int) (rdf : List α → Int → α) (p : α → Bool)
    (hr : ∀ (xs : List α) (i : Nat) (h : i < xs.length), rdf xs (i : Int) = xs[i])
    (hs : ∀ k xs n i, l (k + 1) xs n i = if i < n then (if 0 ≤ i then (if i < (xs.length : Int) then (if p (rdf xs i) = true then some i else l k xs n (wrap64 (i + 1))) else none) else none) else some (-1))
    {xs : List α} (hb : xs.length ≤ 4611686018427387904) : ∀ (d k i : Nat), xs.length - i = d → i ≤ xs.length → d < k → ∃ r : Int, l k xs (xs.length : Int) (i : Int) = some r ∧ decide (r ≥ 0) = (xs.drop i).any p := by
  intro d
  induction d with
  | zero =>
    intro k i hd hi hk
    obtain ⟨k, rfl⟩ : ∃ m, k = m + 1 := ⟨k - 1, by omega⟩
    refine ⟨-1, by rw [hs, if_neg (by omega)], ?_⟩
    rw [List.drop_eq_nil_of_le (by omega)]
    rfl
  | succ d ih =>
    intro k i hd hi hk
    obtain ⟨k, rfl⟩ : ∃ m, k = m + 1 := ⟨k - 1, by omega⟩
    have hx : i < xs.length := by omega
    rw [hs, if_pos (by omega), if_pos (by omega), if_pos (by omega), hr xs i hx, w64n (by omega), List.drop_eq_getElem_cons hx, List.any_cons]
    cases hp : p xs[i] with
    | true =>
      refine ⟨i, by simp, ?_⟩
      simp
    | false =>
      obtain ⟨r, h1, h2⟩ := ih k (i + 1) (by omega) (by omega) (by omega)
      exact ⟨r, by simpa using h1, by rw [h2]; simp⟩
/-- A loop that answers c at the first element that is bad, and e if there is none. -/
theorem any_loop {α β : Type} (l : Nat → List α → Int → Option β) (rdf : List α → Int → α) (bad : α → Bool) (c e : β)
    (hr : ∀ (xs : List α) (i : Nat) (h : i < xs.length), rdf xs (i : Int) = xs[i])
    (hs : ∀ k xs i, l (k + 1) xs i = if i < (xs.length : Int) then (if 0 ≤ i then (if bad (rdf xs i) = true then some c else l k xs (wrap64 (i + 1))) else none) else some e)
    {xs : List α} (hb : xs.length ≤ 4611686018427387904) : ∀ (d k i : Nat), xs.length - i = d → i ≤ xs.length → d < k → l k xs (i : Int) = some (if (xs.drop i).any bad = true then c else e) := by
  intro d
  induction d with
  | zero =>
    intro k i hd hi hk
    obtain ⟨k, rfl⟩ : ∃ m, k = m + 1 := ⟨k - 1, by omega⟩
    rw [hs, if_neg (by omega), List.drop_eq_nil_of_le (by omega)]
    rfl
  | succ d ih =>
    intro k i hd hi hk
    obtain ⟨k, rfl⟩ : ∃ m, k = m + 1 := ⟨k - 1, by omega⟩
    have hx : i < xs.length := by omega
    rw [hs, if_pos (by omega), if_pos (by omega), hr xs i hx, w64n (by omega), List.drop_eq_getElem_cons hx, List.any_cons]
    cases hp : bad xs[i] with
    | true => simp
    | false =>
      rw [ih k (i + 1) (by omega) (by omega) (by omega)]
      simp
/-- A binary search among what rises. -/
theorem bs_loop (L : Nat → Int → Int → Option (Int × Bool)) (c : Int → Int) (n K : Nat)
    (hs : ∀ (k : Nat) (i j : Int), K ≤ k → 0 ≤ i → i < j → j ≤ (n : Int) → L (k + 1) i j = if c ((i + j) / 2) < 0 then L k ((i + j) / 2 + 1) j else L k i ((i + j) / 2))
    (he : ∀ (k : Nat) (i : Int), K ≤ k → 0 ≤ i → i ≤ (n : Int) → L (k + 1) i i = if i < (n : Int) then some (i, c i == 0) else some (i, false))
    (mono : ∀ a b : Int, 0 ≤ a → a ≤ b → b < (n : Int) → c b < 0 → c a < 0) :
    ∀ (d k : Nat) (i j : Int), (j - i).toNat ≤ d → 0 ≤ i → i ≤ j → j ≤ (n : Int) → (∀ m : Int, 0 ≤ m → m < i → c m < 0) → (∀ m : Int, j ≤ m → m < (n : Int) → ¬ c m < 0) → K + d < k →
    ∃ p : Nat, L k i j = some ((p : Int), decide (p < n ∧ c (p : Int) = 0)) ∧ p ≤ n ∧ (∀ m : Nat, m < p → c (m : Int) < 0) ∧ (∀ m : Nat, p ≤ m → m < n → ¬ c (m : Int) < 0) := by
  intro d
  induction d with
  | zero =>
    intro k i j hd h0 hij hj hlo hhi hk
    obtain ⟨k, rfl⟩ : ∃ m, k = m + 1 := ⟨k - 1, by omega⟩
    obtain rfl : i = j := by omega
    obtain ⟨p, rfl⟩ := Int.eq_ofNat_of_zero_le h0
    refine ⟨p, ?_, by omega, fun m hm => hlo m (by omega) (by omega), fun m h1 h2 => hhi m (by omega) (by omega)⟩
    rw [he k p (by omega) h0 hj]
    by_cases hp : (p : Int) < (n : Int)
    · rw [if_pos hp]
      have : p < n := by omega
      simp [this]
      rfl
    · rw [if_neg hp]
      have : ¬ p < n := by omega
      simp [this]
  | succ d ih =>
    intro k i j hd h0 hij hj hlo hhi hk
    by_cases hlt : i < j
    · obtain ⟨k, rfl⟩ : ∃ m, k = m + 1 := ⟨k - 1, by omega⟩
      rw [hs k i j (by omega) h0 hlt hj]
      by_cases hc : c ((i + j) / 2) < 0
      · rw [if_pos hc]
        exact ih k ((i + j) / 2 + 1) j (by omega) (by omega) (by omega) hj (fun m h1 h2 => mono m ((i + j) / 2) h1 (by omega) (by omega) hc) hhi (by omega)
      · rw [if_neg hc]
        refine ih k i ((i + j) / 2) (by omega) h0 (by omega) (by omega) hlo (fun m h1 h2 hm => hc (mono ((i + j) / 2) m (by omega) h1 h2 hm)) (by omega)
    · exact ih k i j (by omega) h0 hij hj hlo hhi (by omega)
theorem mid_eq {i j : Int} (h0 : 0 ≤ i) (hij : i ≤ j) (hj : j ≤ 4000000000000000000) : wrap64 ((IntKind.u64.wrap (wrap64 (i + j))) / 2) = (i + j) / 2 := by
  rw [w64 (x := i + j) (by omega)]
  have e : IntKind.u64.wrap (i + j) = i + j := by
    simp [IntKind.wrap, IntKind.bits, IntKind.signed]
    omega
  rw [e, w64 (by omega)]
end Go.Proofs.YtckgkblpbfckdaaPlain
