/- FnBinds: a key that was bound tells its sym, and all others tell what they told. No condition. -/
import Derived.Test.YtpoafgokngpglaaPFnBindsx
import Derived.Test.YtpoafgokngpglaaQdPlain
namespace Go.Proofs.Ytpoafgokngpglaa.Pure
open Go Go.RowKit Go.Proofs.Ytpoafgokngpglaa.PFnBinds Go.Proofs.YtpoafgokngpglaaW.PrintWords Go.Proofs.YtpoafgokngpglaaW.PrintLast Go.Proofs.YtpoafgokngpglaaPlain
set_option linter.unusedVariables false
set_option linter.unusedSimpArgs false

instance : DecidableEq S62 := fun a b => match a, b with
  | ⟨a0, a1⟩, ⟨b0, b1⟩ => decidable_of_iff (a0 = b0 ∧ a1 = b1) (by simp)
instance : DecidableEq S64 := fun a b => match a, b with
  | ⟨a0, a1, a2⟩, ⟨b0, b1, b2⟩ => decidable_of_iff (a0 = b0 ∧ a1 = b1 ∧ a2 = b2) (by simp)

theorem spec_l1In_eq (x a b : Int) : spec_l1In.f x a b = some (decide (a ≤ x ∧ x ≤ b)) := by
  unfold spec_l1In.f
  split <;> (congr 1; simp_all) <;> omega

theorem impl_in_eq (x a b : Int) : impl_in.f x a b = some (decide (a ≤ x ∧ x ≤ b)) := by
  unfold impl_in.f
  split <;> (congr 1; simp_all) <;> omega

theorem spec_l1Char_eq (x : Int) : spec_l1Char.f x = some (isCh x) := by
  unfold spec_l1Char.f isCh
  simp only [spec_l1In_eq, Option.bind_some]
  by_cases h : 0 ≤ x ∧ x ≤ 55295
  · simp [h]
  · rw [if_neg (by simpa using h)]
    congr 1
    simp only [h, false_or]

theorem impl_isChar_eq (x : Int) : impl_isChar.f x = some (isCh x) := by
  unfold impl_isChar.f isCh
  simp only [impl_in_eq, Option.bind_some]
  by_cases h : 0 ≤ x ∧ x ≤ 65535
  · rw [if_pos (by simpa using h), ← decide_not]
    congr 1
    refine decide_eq_decide.2 ?_
    omega
  · rw [if_neg (by simpa using h)]
    congr 1
    symm
    rw [decide_eq_false_iff_not]
    omega

theorem impl_isBit_eq (x : Int) : impl_isBit.f x = some (decide (x = 1 ∨ x = 2 ∨ x = 4)) := by
  unfold impl_isBit.f
  by_cases h1 : x = 1 <;> by_cases h2 : x = 2 <;> simp [h1, h2] <;> rfl
/-- Has a sym the value of its kind? -/
def symV (a b : Int) : Bool := if a = 1 then isCh b else if a = 2 then decide (0 ≤ b ∧ b ≤ 3) else if a = 3 then decide (b = 1 ∨ b = 2 ∨ b = 4) else if a = 5 then decide (1 ≤ b ∧ b ≤ 3) else if a = 6 then decide (0 ≤ b ∧ b ≤ 2) else decide (b = 0)
/-- What is wrong with a sym. -/
def symF (a b : Int) : Int := if 0 ≤ a ∧ a ≤ 6 then (if symV a b = true then 0 else 3) else 1
theorem spec_l8Value_eq (a b : Int) : spec_l8Value.f a b = some (symV a b) := by
  unfold spec_l8Value.f symV
  simp only [spec_l1In_eq, spec_l1Char_eq, Option.bind_some]
  by_cases h1 : a = 1
  · simp [h1]
  by_cases h2 : a = 2
  · simp [h2]
  by_cases h3 : a = 3
  · subst h3
    by_cases g1 : b = 1 <;> by_cases g2 : b = 2 <;> simp [g1, g2] <;> rfl
  by_cases h4 : a = 5
  · simp [h4]
  by_cases h5 : a = 6
  · simp [h5]
  simp [h1, h2, h3, h4, h5]
  rfl
theorem spec_l8Sym_eq (a b : Int) : spec_l8Sym.f a b = some (symF a b) := by
  unfold spec_l8Sym.f symF
  simp only [spec_l1In_eq, spec_l8Value_eq, Option.bind_some]
  by_cases h : 0 ≤ a ∧ a ≤ 6
  · simp only [h, and_self, decide_true, if_true]
    split <;> simp_all
  · simp only [h, decide_false, Bool.false_eq_true, if_false]
theorem impl_SymFault_eq {k : Nat} (hk : 1 ≤ k) (a b : Int) : impl_SymFault.f k a b = some (symF a b) := by
  obtain ⟨k, rfl⟩ : ∃ m, k = m + 1 := ⟨k - 1, by omega⟩
  unfold impl_SymFault.f symF
  simp only [impl_SymFault.j0, impl_in_eq, impl_isChar_eq, impl_isBit_eq, impl_unless.f, Option.bind_some]
  by_cases h0 : a = 0
  · subst h0
    by_cases g : b = 0 <;> simp [symV, g]
  by_cases h1 : a = 1
  · subst h1
    cases g : isCh b <;> simp [symV, g]
  by_cases h2 : a = 2
  · subst h2
    by_cases g : 0 ≤ b ∧ b ≤ 3 <;> simp [symV, g]
  by_cases h3 : a = 3
  · subst h3
    by_cases g : b = 1 ∨ b = 2 ∨ b = 4 <;> simp [symV, g]
  by_cases h4 : a = 4
  · subst h4
    by_cases g : b = 0 <;> simp [symV, g]
  by_cases h5 : a = 5
  · subst h5
    by_cases g : 1 ≤ b ∧ b ≤ 3 <;> simp [symV, g]
  by_cases h6 : a = 6
  · subst h6
    by_cases g : 0 ≤ b ∧ b ≤ 2 <;> simp [symV, g]
  have h : ¬ (0 ≤ a ∧ a ≤ 6) := by omega
  simp [h0, h1, h2, h3, h4, h5, h6, h]

theorem impl_first2 {k : Nat} (hk : 3 ≤ k) (a b : Int) : impl_first.f k [a, b] = some (if a = 0 then b else a) := by
  obtain ⟨k, rfl⟩ : ∃ m, k = m + 3 := ⟨k - 3, by omega⟩
  have w0 : wrap64 1 = 1 := by unfold wrap64; omega
  have w1 : wrap64 2 = 2 := by unfold wrap64; omega
  by_cases h1 : a = 0
  · by_cases h2 : b = 0
    · simp [impl_first.f, impl_first.l0, rd, w0, w1, h1, h2]
    · simp [impl_first.f, impl_first.l0, rd, w0, w1, h1, h2]
  · simp [impl_first.f, impl_first.l0, rd, w0, w1, h1]

theorem impl_unless_eq (b : Bool) (x : Int) : impl_unless.f b x = some (if b = true then 0 else x) := by
  unfold impl_unless.f
  split <;> rfl


theorem rdBind {xs : List S64} {i : Nat} (h : i < xs.length) : rd_T64 xs (i : Int) = xs[i] := getD_nat h



def keyB (a b : Int) : Bool := decide (1 ≤ a ∧ a ≤ 40) && decide (0 ≤ b ∧ b ≤ 7)
def aheadB (x y : S64) : Bool := decide (x.f0 < y.f0 ∨ (x.f0 = y.f0 ∧ x.f1 < y.f1))
theorem spec_l8Key_eq (a b : Int) : spec_l8Key.f a b = some (keyB a b) := by
  unfold spec_l8Key.f keyB
  simp only [spec_l1In_eq, Option.bind_some]
  by_cases h : 1 ≤ a ∧ a ≤ 40 <;> simp [h]
theorem spec_l8Ahead_eq (x y : S64) : spec_l8Ahead.f x.f0 x.f1 x.f2.f0 x.f2.f1 y.f0 y.f1 y.f2.f0 y.f2.f1 = some (aheadB x y) := by
  unfold spec_l8Ahead.f aheadB
  by_cases h1 : x.f0 < y.f0
  · simp [h1]
  · by_cases h2 : x.f0 = y.f0 <;> simp [h1, h2]
/-- What is wrong with the i-th bind. -/
def bindC (xs : List S64) (i : Int) : Int := if keyB (rd_T64 xs i).f0 (rd_T64 xs i).f1 = true then (if symF (rd_T64 xs i).f2.f0 (rd_T64 xs i).f2.f1 = 0 then (if 0 < i ∧ ¬ aheadB (rd_T64 xs (i - 1)) (rd_T64 xs i) = true then 1 else 0) else symF (rd_T64 xs i).f2.f0 (rd_T64 xs i).f2.f1) else 3
def bindsF (xs : List S64) : Int := if xs.length ≤ 24 then codeFrom (bindC xs) xs.length 0 else 2
theorem spec_l8Fault_eq {k : Nat} (xs : List S64) (hk : 60 ≤ k) : spec_l8Fault.f k xs = some (bindsF xs) := by
  unfold spec_l8Fault.f bindsF
  by_cases h2 : xs.length ≤ 24
  · rw [if_neg (by omega), if_pos h2]
    exact code_loop (fun k i => spec_l8Fault.l0 k xs i) (bindC xs) xs.length 0 (fun k i hk h0 hi => by
        have e1 : wrap64 (i - 1) = i - 1 := w64 (by omega)
        have e2 : wrap64 (i + 1) = i + 1 := w64 (by omega)
        have e3 : i - 1 < (xs.length : Int) := by omega
        simp only [spec_l8Fault.l0, spec_l8Key_eq, spec_l8Sym_eq, spec_l8Ahead_eq, Option.bind_some, if_pos h0, if_pos hi, e1, e2, if_pos e3]
        unfold bindC
        by_cases g1 : keyB (rd_T64 xs i).f0 (rd_T64 xs i).f1 = true
        · by_cases g2 : symF (rd_T64 xs i).f2.f0 (rd_T64 xs i).f2.f1 = 0
          · by_cases g3 : 0 < i
            · have e4 : 0 ≤ i - 1 := by omega
              have e5 : 1 ≤ i := by omega
              by_cases g4 : aheadB (rd_T64 xs (i - 1)) (rd_T64 xs i) = true <;> simp [g1, g2, g3, g4, e4, e5]
            · simp [g1, g2, g3]
          · simp [g1, g2]
        · simp [g1]) (fun k hk => by simp only [spec_l8Fault.l0]; rw [if_neg (by omega)]) xs.length k 0 (by omega) (by omega) (by omega)
  · rw [if_pos (by omega), if_neg h2]
theorem symF_code (a b : Int) : symF a b = 0 ∨ symF a b = 1 ∨ symF a b = 3 := by
  unfold symF
  split
  · split <;> simp
  · simp
theorem impl_Bind_code_eq {k : Nat} (hk : 4 ≤ k) (x : S64) : impl_Bind_code.f k x.f0 x.f1 x.f2.f0 x.f2.f1 = some (if keyB x.f0 x.f1 = true then symF x.f2.f0 x.f2.f1 else 3) := by
  unfold impl_Bind_code.f impl_isKey.f keyB
  simp only [impl_in_eq, impl_unless_eq, Option.bind_some, impl_SymFault_eq (show 1 ≤ k by omega), impl_first2 (show 3 ≤ k by omega)]
  by_cases h1 : 1 ≤ x.f0 ∧ x.f0 ≤ 40 <;> by_cases h2 : 0 ≤ x.f1 ∧ x.f1 ≤ 7 <;> simp [h1, h2]
theorem cmp_Or2 {k : Nat} (hk : 3 ≤ k) (a b : Int) : cmp_Or_int.f k [a, b] = some (if a = 0 then b else a) := by
  obtain ⟨k, rfl⟩ : ∃ m, k = m + 3 := ⟨k - 3, by omega⟩
  have w0 : wrap64 1 = 1 := by unfold wrap64; omega
  have w1 : wrap64 2 = 2 := by unfold wrap64; omega
  by_cases h1 : a = 0
  · by_cases h2 : b = 0
    · simp [cmp_Or_int.f, cmp_Or_int.l0, rd, w0, w1, h1, h2]
    · simp [cmp_Or_int.f, cmp_Or_int.l0, rd, w0, w1, h1, h2]
  · simp [cmp_Or_int.f, cmp_Or_int.l0, rd, w0, w1, h1]
def cmpI (a b : Int) : Int := if a < b then -1 else if a > b then 1 else 0
theorem cmp_Compare_eq (a b : Int) : cmp_Compare_int64.f a b = some (cmpI a b) := by
  unfold cmp_Compare_int64.f cmp_isNaN_int64.f cmpI
  simp
  split
  · rfl
  · split <;> rfl
def cmpB (x y : S64) : Int := if cmpI x.f0 y.f0 = 0 then cmpI x.f1 y.f1 else cmpI x.f0 y.f0
theorem impl_Bind_compare_eq {k : Nat} (hk : 3 ≤ k) (x y : S64) : impl_Bind_compare.f k x.f0 x.f1 x.f2.f0 x.f2.f1 y.f0 y.f1 y.f2.f0 y.f2.f1 = some (cmpB x y) := by
  unfold impl_Bind_compare.f
  simp only [cmp_Compare_eq, Option.bind_some, cmp_Or2 hk]
  rfl
theorem cmpB_ahead (x y : S64) : decide (cmpB x y < 0) = aheadB x y := by
  unfold cmpB cmpI aheadB
  refine decide_eq_decide.2 ?_
  by_cases h1 : x.f0 < y.f0
  · simp [h1]
  · by_cases h2 : x.f0 > y.f0
    · have h3 : ¬ x.f0 = y.f0 := by omega
      simp [h1, h2, h3]
    · have h3 : x.f0 = y.f0 := by omega
      by_cases h4 : x.f1 < y.f1
      · simp [h1, h2, h3, h4]
      · by_cases h5 : x.f1 > y.f1 <;> simp [h1, h2, h3, h4, h5]
theorem impl_BindsFault_eq {k : Nat} (xs : List S64) (hk : 60 ≤ k) : impl_BindsFault.f k xs = some (bindsF xs) := by
  unfold impl_BindsFault.f bindsF
  by_cases h2 : xs.length ≤ 24
  · rw [if_neg (by omega), if_pos h2]
    exact code_loop (fun k i => impl_BindsFault.l0 k xs xs (xs.length : Int) i) (bindC xs) xs.length 10 (fun k i hk h0 hi => by
        have e1 : wrap64 (i - 1) = i - 1 := w64 (by omega)
        have e2 : wrap64 (i + 1) = i + 1 := w64 (by omega)
        have e3 : i - 1 < (xs.length : Int) := by omega
        simp only [impl_BindsFault.l0, impl_Bind_code_eq (show 4 ≤ k by omega), impl_Bind_compare_eq (show 3 ≤ k by omega), cmpB_ahead, impl_unless_eq, impl_first2 (show 3 ≤ k by omega), Option.bind_some, if_pos h0, if_pos hi, e1, e2, if_pos e3]
        unfold bindC
        by_cases g2 : i = 0
        · subst g2
          by_cases g1 : keyB (rd_T64 xs 0).f0 (rd_T64 xs 0).f1 = true
          · rcases symF_code (rd_T64 xs 0).f2.f0 (rd_T64 xs 0).f2.f1 with g | g | g <;> simp [g1, g]
          · simp [g1]
        · have e4 : 0 ≤ i - 1 := by omega
          have e5 : 1 ≤ i := by omega
          have e6 : 0 < i := by omega
          by_cases g1 : keyB (rd_T64 xs i).f0 (rd_T64 xs i).f1 = true
          · by_cases g4 : aheadB (rd_T64 xs (i - 1)) (rd_T64 xs i) = true <;> rcases symF_code (rd_T64 xs i).f2.f0 (rd_T64 xs i).f2.f1 with g | g | g <;> simp [g1, g2, g4, g, e4, e5, e6]
          · simp [g1, g2, e4, e5]) (fun k hk => by simp only [impl_BindsFault.l0]; rw [if_neg (by omega)]) xs.length k 0 (by omega) (by omega) (by omega)
  · rw [if_pos (by omega), if_neg h2]



theorem ahead_iff (x y : S64) : aheadB x y = true ↔ (x.f0 < y.f0 ∨ (x.f0 = y.f0 ∧ x.f1 < y.f1)) := by
  unfold aheadB
  simp
theorem binds_rise {xs : List S64} (h : bindsF xs = 0) : xs.length ≤ 24 ∧ ∀ (i j : Nat) (hi : i < j) (hj : j < xs.length), aheadB xs[i] xs[j] = true := by
  unfold bindsF at h
  split at h
  · rename_i hl
    refine ⟨hl, ?_⟩
    have hz := codeFrom_zero (bindC xs) xs.length 0 h
    have step : ∀ (j : Nat) (h0 : 0 < j) (hj : j < xs.length), aheadB (xs[j - 1]'(by omega)) xs[j] = true := by
      intro j h0 hj
      have h1 := hz j (by omega) (by omega)
      unfold bindC at h1
      have e : (j : Int) - 1 = ((j - 1 : Nat) : Int) := by omega
      rw [e, rdBind hj, rdBind (show j - 1 < xs.length by omega)] at h1
      split at h1
      · split at h1
        · rename_i g1 g2
          by_cases g : aheadB (xs[j - 1]'(by omega)) xs[j] = true
          · exact g
          · rw [if_pos ⟨by omega, g⟩] at h1
            omega
        · omega
      · omega
    intro i j hi hj
    obtain ⟨d, rfl⟩ : ∃ d, j = i + 1 + d := ⟨j - i - 1, by omega⟩
    induction d with
    | zero =>
      have := step (i + 1) (by omega) hj
      simpa using this
    | succ d ih =>
      have h3 := ih (by omega) (by omega)
      have h4 := step (i + 1 + (d + 1)) (by omega) hj
      have e : i + 1 + (d + 1) - 1 = i + 1 + d := by omega
      simp only [e] at h4
      rw [ahead_iff] at h3 h4 ⊢
      omega
  · omega
theorem cmpB_zero (x y : S64) : cmpB x y = 0 ↔ (x.f0 = y.f0 ∧ x.f1 = y.f1) := by
  unfold cmpB cmpI
  by_cases h1 : x.f0 < y.f0
  · rw [if_pos h1]
    simp
    omega
  · by_cases h2 : x.f0 > y.f0
    · rw [if_neg h1, if_pos h2]
      simp
      omega
    · have h3 : x.f0 = y.f0 := by omega
      rw [if_neg h1, if_neg h2, if_pos rfl]
      by_cases h4 : x.f1 < y.f1
      · rw [if_pos h4]
        simp
        omega
      · by_cases h5 : x.f1 > y.f1
        · rw [if_neg h4, if_pos h5]
          simp
          omega
        · rw [if_neg h4, if_neg h5]
          simp
          omega
theorem cmpB_neg (x y : S64) : cmpB x y < 0 ↔ (x.f0 < y.f0 ∨ (x.f0 = y.f0 ∧ x.f1 < y.f1)) := by
  have h := cmpB_ahead x y
  rw [← ahead_iff, ← h]
  simp
def isB (a m : Int) (q : S64) : Bool := decide (q.f0 = a ∧ q.f1 = m)



/-- Where a bind's place is, or would be. -/
theorem search_eq {k : Nat} {xs : List S64} (h : bindsF xs = 0) (a m : Int) (hk : 100 ≤ k) :
    ∃ p : Nat, (impl_Bind_70.f k xs a m 0 0 = some ((p : Int), decide (∃ h : p < xs.length, isB a m xs[p] = true))) ∧ (∀ (hp : p < xs.length), isB a m xs[p] = true → xs.find? (isB a m) = some xs[p]) ∧ (¬ (∃ hp : p < xs.length, isB a m xs[p] = true) → xs.find? (isB a m) = none) := by
  obtain ⟨hl, hr⟩ := binds_rise h
  obtain ⟨p, h1, h2, h3, h4⟩ := bs_loop (fun k i j => impl_Bind_70.l0 k xs (xs.length : Int) i j a m 0 0) (fun i => cmpB (rd_T64 xs i) ⟨a, m, ⟨0, 0⟩⟩) xs.length 10
    (fun k i j hk h0 hij hj => by
      have e := fun x => impl_Bind_compare_eq (k := k) (by omega) x ⟨a, m, ⟨0, 0⟩⟩
      simp only [impl_Bind_70.l0, e, Option.bind_some]
      rw [if_pos hij, mid_eq h0 (by omega) (by omega), if_pos (by omega), if_pos (by omega), w64 (x := (i + j) / 2 + 1) (by omega)])
    (fun k i hk h0 hi => by
      have e := fun x => impl_Bind_compare_eq (k := k) (by omega) x ⟨a, m, ⟨0, 0⟩⟩
      simp only [impl_Bind_70.l0, e, Option.bind_some]
      rw [if_neg (by omega)]
      by_cases g : i < (xs.length : Int)
      · simp only [g, h0, if_true]
      · simp only [g, if_false])
    (fun i j h0 hij hj hlt => by
      obtain ⟨i, rfl⟩ := Int.eq_ofNat_of_zero_le h0
      obtain ⟨j, rfl⟩ := Int.eq_ofNat_of_zero_le (show 0 ≤ j by omega)
      rw [rdBind (show j < xs.length by omega)] at hlt
      rw [rdBind (show i < xs.length by omega)]
      by_cases e : i = j
      · subst e; exact hlt
      · have := hr i j (by omega) (by omega)
        rw [ahead_iff] at this
        rw [cmpB_neg] at hlt ⊢
        dsimp only at hlt ⊢
        omega)
    xs.length k 0 (xs.length : Int) (by omega) (by omega) (by omega) (by omega) (fun m h1 h2 => by omega) (fun m h1 h2 => by omega) (by omega)
  have hz : ∀ (i : Nat) (hi : i < xs.length), cmpB (rd_T64 xs (i : Int)) ⟨a, m, ⟨0, 0⟩⟩ = 0 ↔ isB a m xs[i] = true := by
    intro i hi
    rw [rdBind hi, cmpB_zero]
    unfold isB
    simp
  have hn : ∀ (i : Nat) (hi : i < xs.length), cmpB (rd_T64 xs (i : Int)) ⟨a, m, ⟨0, 0⟩⟩ < 0 → ¬ isB a m xs[i] = true := by
    intro i hi hc he
    have := (hz i hi).2 he
    omega
  refine ⟨p, ?_, fun hp e => ?_, fun hne => ?_⟩
  · unfold impl_Bind_70.f
    rw [h1]
    congr 2
    refine decide_eq_decide.2 ?_
    constructor
    · rintro ⟨g1, g2⟩
      exact ⟨g1, (hz p g1).1 g2⟩
    · rintro ⟨g1, g2⟩
      exact ⟨g1, (hz p g1).2 g2⟩
  · rw [List.find?_eq_some_iff_getElem]
    refine ⟨e, p, hp, rfl, fun j hj => ?_⟩
    have := hn j (by omega) (h3 j hj)
    simpa using this
  · rw [List.find?_eq_none]
    intro q hq
    obtain ⟨i, hi, rfl⟩ := List.mem_iff_getElem.1 hq
    intro e
    rcases Nat.lt_or_ge i p with g | g
    · exact hn i hi (h3 i g) e
    · by_cases e2 : i = p
      · subst e2
        exact hne ⟨hi, e⟩
      · have g3 := hr p i (by omega) hi
        have g4 := h4 p (Nat.le_refl _) (by omega)
        have g5 := (hz i hi).2 e
        rw [rdBind hi, cmpB_zero] at g5
        rw [rdBind (show p < xs.length by omega), cmpB_neg] at g4
        rw [ahead_iff] at g3
        dsimp only at g4 g5
        omega
/-- What the reference's one pass answers. -/
def ofL (a b : Int) : List S64 → Int × Int → Int × Int
  | [], s => s
  | q :: r, s => if q.f0 = a then (if q.f1 = b then (q.f2.f0, q.f2.f1) else if q.f1 = 0 then ofL a b r (q.f2.f0, q.f2.f1) else ofL a b r s) else ofL a b r s
theorem spec_l8Of_loop {xs : List S64} (hl : xs.length ≤ 24) (a m : Int) : ∀ (d k i : Nat) (s t : Int), xs.length - i = d → i ≤ xs.length → d < k → spec_l8Of.l0 k xs a m (i : Int) s t = some (ofL a m (xs.drop i) (s, t)) := by
  intro d
  induction d with
  | zero =>
    intro k i s t hd hi hk
    obtain ⟨k, rfl⟩ : ∃ m, k = m + 1 := ⟨k - 1, by omega⟩
    simp only [spec_l8Of.l0]
    rw [if_neg (by omega), List.drop_eq_nil_of_le (by omega)]
    rfl
  | succ d ih =>
    intro k i s t hd hi hk
    obtain ⟨k, rfl⟩ : ∃ m, k = m + 1 := ⟨k - 1, by omega⟩
    have hx : i < xs.length := by omega
    simp only [spec_l8Of.l0]
    rw [if_pos (by omega), if_pos (by omega), rdBind hx, w64n (by omega), ih k (i + 1) _ _ (by omega) (by omega) (by omega), ih k (i + 1) _ _ (by omega) (by omega) (by omega), List.drop_eq_getElem_cons hx]
    conv => rhs; rw [ofL]
    split
    · split
      · rfl
      · split <;> rfl
    · rfl
def symB (q : S64) : Int × Int := (q.f2.f0, q.f2.f1)
theorem ofL_find (a m : Int) : ∀ (xs : List S64) (s : Int × Int), xs.Pairwise (fun x y => aheadB x y = true) → ofL a m xs s = (match xs.find? (isB a m) with | some q => symB q | none => (match xs.find? (isB a 0) with | some q => symB q | none => s))
  | [], s, _ => rfl
  | q :: r, s, hp => by
    obtain ⟨h1, h2⟩ := List.pairwise_cons.1 hp
    rw [ofL]
    by_cases e1 : q.f0 = a
    · rw [if_pos e1]
      by_cases e2 : q.f1 = m
      · rw [if_pos e2]
        have : isB a m q = true := by simp [isB, e1, e2]
        rw [List.find?_cons_of_pos this]
        rfl
      · rw [if_neg e2]
        have n1 : ¬ isB a m q = true := by simp [isB, e1, e2]
        rw [List.find?_cons_of_neg n1]
        by_cases e3 : q.f1 = 0
        · rw [if_pos e3, ofL_find a m r _ h2]
          have p0 : isB a 0 q = true := by simp [isB, e1, e3]
          have n0 : r.find? (isB a 0) = none := by
            rw [List.find?_eq_none]
            intro y hy e
            have := h1 y hy
            rw [ahead_iff] at this
            simp [isB] at e
            omega
          rw [List.find?_cons_of_pos p0, n0]
          rfl
        · rw [if_neg e3, ofL_find a m r _ h2]
          have n0 : ¬ isB a 0 q = true := by simp [isB, e1, e3]
          rw [List.find?_cons_of_neg n0]
    · rw [if_neg e1, ofL_find a m r _ h2]
      have n1 : ¬ isB a m q = true := by simp [isB, e1]
      have n0 : ¬ isB a 0 q = true := by simp [isB, e1]
      rw [List.find?_cons_of_neg n1, List.find?_cons_of_neg n0]
theorem symOf_val {k : Nat} {xs : List S64} (h : bindsF xs = 0) (a m : Int) (hk : 200 ≤ k) : spec_l8Of.f k xs a m = some (ofL a m xs (0, 0)) ∧ impl_symOf.f k xs a m = some (ofL a m xs (0, 0)) := by
  obtain ⟨hl, hr⟩ := binds_rise h
  have hpw : xs.Pairwise (fun x y => aheadB x y = true) := by
    rw [List.pairwise_iff_getElem]
    intro i j hi hj hij
    exact hr i j hij hj
  refine ⟨?_, ?_⟩
  · have := spec_l8Of_loop hl a m xs.length k 0 0 0 (by omega) (Nat.zero_le _) (by omega)
    rw [List.drop_zero] at this
    exact this
  · rw [ofL_find a m xs _ hpw]
    obtain ⟨k, rfl⟩ : ∃ m, k = m + 3 := ⟨k - 3, by omega⟩
    have w0 : wrap64 1 = 1 := by unfold wrap64; omega
    have w1 : wrap64 2 = 2 := by unfold wrap64; omega
    obtain ⟨p, p1, p2, p3⟩ := search_eq (k := k + 2) h a m (by omega)
    obtain ⟨q, q1, q2, q3⟩ := search_eq (k := k + 1) h a 0 (by omega)
    have r0 : rd [m, 0] 0 = m := rfl
    have r1 : rd [m, 0] 1 = 0 := rfl
    simp only [impl_symOf.f, impl_symOf.l0, Option.bind_some, List.length_cons, List.length_nil, r0]
    rw [if_pos (by omega), if_pos (by omega), if_pos (by omega), p1]
    simp only [Option.bind_some, decide_eq_true_eq]
    by_cases g : ∃ hp : p < xs.length, isB a m xs[p] = true
    · rw [if_pos g]
      obtain ⟨hp, g⟩ := g
      rw [if_pos (by omega), if_pos (by omega), rdBind hp, p2 hp g]
      rfl
    · rw [if_neg g, p3 g]
      simp only [Int.zero_add, w0, r1]
      rw [if_pos (by omega), if_pos (by omega), if_pos (by omega), q1]
      simp only [Option.bind_some, decide_eq_true_eq]
      by_cases g : ∃ hp : q < xs.length, isB a 0 xs[q] = true
      · rw [if_pos g]
        obtain ⟨hp, g⟩ := g
        rw [if_pos (by omega), if_pos (by omega), rdBind hp, q2 hp g]
        rfl
      · rw [if_neg g, q3 g]
        have w2 : wrap64 (1 + 1) = 2 := by unfold wrap64; omega
        simp only [w2]
        rw [if_neg (by omega)]
theorem symOf_same {k : Nat} {xs : List S64} (h : bindsF xs = 0) (a m : Int) (hk : 200 ≤ k) : ∃ s : Int × Int, spec_l8Of.f k xs a m = some s ∧ impl_symOf.f k xs a m = some s := ⟨_, symOf_val h a m hk⟩



theorem search_at {k : Nat} {xs : List S64} (h : bindsF xs = 0) (y : S64) (hk : 100 ≤ k) :
    ∃ p : Nat, impl_Bind_70.f k xs y.f0 y.f1 y.f2.f0 y.f2.f1 = some ((p : Int), decide (∃ h : p < xs.length, cmpB xs[p] y = 0)) ∧ p ≤ xs.length ∧ (∀ (m : Nat) (hm : m < xs.length), m < p → aheadB xs[m] y = true) ∧ (∀ (m : Nat) (hm : m < xs.length), p ≤ m → aheadB xs[m] y = false) := by
  obtain ⟨hl, hr⟩ := binds_rise h
  obtain ⟨p, h1, h2, h3, h4⟩ := bs_loop (fun k i j => impl_Bind_70.l0 k xs (xs.length : Int) i j y.f0 y.f1 y.f2.f0 y.f2.f1) (fun i => cmpB (rd_T64 xs i) y) xs.length 10
    (fun k i j hk h0 hij hj => by
      have e := fun x => impl_Bind_compare_eq (k := k) (by omega) x y
      simp only [impl_Bind_70.l0, e, Option.bind_some]
      rw [if_pos hij, mid_eq h0 (by omega) (by omega), if_pos (by omega), if_pos (by omega), w64 (x := (i + j) / 2 + 1) (by omega)])
    (fun k i hk h0 hi => by
      have e := fun x => impl_Bind_compare_eq (k := k) (by omega) x y
      simp only [impl_Bind_70.l0, e, Option.bind_some]
      rw [if_neg (by omega)]
      by_cases g : i < (xs.length : Int)
      · simp only [g, h0, if_true]
      · simp only [g, if_false])
    (fun i j h0 hij hj hlt => by
      obtain ⟨i, rfl⟩ := Int.eq_ofNat_of_zero_le h0
      obtain ⟨j, rfl⟩ := Int.eq_ofNat_of_zero_le (show 0 ≤ j by omega)
      rw [rdBind (show j < xs.length by omega)] at hlt
      rw [rdBind (show i < xs.length by omega)]
      by_cases e : i = j
      · subst e; exact hlt
      · have := hr i j (by omega) (by omega)
        rw [ahead_iff] at this
        rw [cmpB_neg] at hlt ⊢
        omega)
    xs.length k 0 (xs.length : Int) (by omega) (by omega) (by omega) (by omega) (fun m h1 h2 => by omega) (fun m h1 h2 => by omega) (by omega)
  have ea : ∀ (i : Nat) (hi : i < xs.length), cmpB (rd_T64 xs (i : Int)) y = cmpB xs[i] y := fun i hi => by rw [rdBind hi]
  have hp : p ≤ xs.length := by omega
  refine ⟨p, ?_, hp, fun m hm hmp => ?_, fun m hm hmp => ?_⟩
  · unfold impl_Bind_70.f
    rw [h1]
    congr 2
    refine decide_eq_decide.2 ?_
    constructor
    · rintro ⟨g1, g2⟩
      exact ⟨g1, (ea p g1).symm.trans g2⟩
    · rintro ⟨g1, g2⟩
      exact ⟨g1, (ea p g1).trans g2⟩
  · have := h3 m hmp
    rw [ea m hm] at this
    rw [← cmpB_ahead]
    simpa using this
  · have := h4 m hmp hm
    rw [ea m hm] at this
    rw [← cmpB_ahead]
    simpa using this
/-- A bind put among rising ones, as the reference does it. -/
def putL (y : S64) : List S64 → Bool → List S64
  | [], done => if done = true then [] else [y]
  | q :: r, done => (if done = true then [] else if aheadB q y = true then [] else [y]) ++ ((if aheadB q y = true then [q] else if aheadB y q = true then [q] else []) ++ putL y r (done || !aheadB q y))
theorem put_go {xs : List S64} (hl : xs.length ≤ 24) (y : S64) : ∀ (d k i : Nat) (acc : List S64) (done : Bool), xs.length - i = d → i ≤ xs.length → 3 * d + 3 < k → acc.length ≤ 2 * i → spec_l8Put.l0 k xs acc done (i : Int) y.f0 y.f1 y.f2.f0 y.f2.f1 = some (acc ++ putL y (xs.drop i) done) := by
  intro d
  induction d with
  | zero =>
    intro k i acc done hd hi hk ha
    obtain ⟨k, rfl⟩ : ∃ m, k = m + 1 := ⟨k - 1, by omega⟩
    simp only [spec_l8Put.l0]
    rw [if_neg (by omega), List.drop_eq_nil_of_le (by omega)]
    cases done
    · rw [if_neg (by decide), if_pos (by omega)]
      rfl
    · rw [if_pos rfl]
      simp [putL]
  | succ d ih =>
    intro k i acc done hd hi hk ha
    obtain ⟨k, rfl⟩ : ∃ m, k = m + 3 := ⟨k - 3, by omega⟩
    have hx : i < xs.length := by omega
    have h2 : ∀ (acc' : List S64) (dn : Bool), acc'.length ≤ 2 * i + 1 → spec_l8Put.j2 (k + 1) xs acc' dn (i : Int) y.f0 y.f1 y.f2.f0 y.f2.f1 = some (acc' ++ ((if aheadB xs[i] y = true then [xs[i]] else if aheadB y xs[i] = true then [xs[i]] else []) ++ putL y (xs.drop (i + 1)) dn)) := by
      intro acc' dn ha'
      simp only [spec_l8Put.j2]
      rw [if_pos (by omega), if_pos (by omega), rdBind hx, spec_l8Ahead_eq, spec_l8Ahead_eq, w64n (by omega)]
      simp only [Option.bind_some]
      by_cases g1 : aheadB xs[i] y = true
      · rw [if_pos g1, if_pos g1, if_pos (by omega), ih k (i + 1) _ dn (by omega) (by omega) (by omega) (by simp; omega)]
        simp
      · rw [if_neg g1, if_neg g1]
        by_cases g2 : aheadB y xs[i] = true
        · rw [if_pos g2, if_pos g2, if_pos (by omega), ih k (i + 1) _ dn (by omega) (by omega) (by omega) (by simp; omega)]
          simp
        · rw [if_neg g2, if_neg g2, ih k (i + 1) _ dn (by omega) (by omega) (by omega) (by omega)]
          simp
    simp only [spec_l8Put.l0]
    rw [if_pos (by omega), List.drop_eq_getElem_cons hx, putL]
    cases done
    · simp only [Bool.false_eq_true, if_false]
      rw [if_pos (by omega), rdBind hx, spec_l8Ahead_eq]
      simp only [Option.bind_some, spec_l8Put.j1]
      by_cases g : aheadB xs[i] y = true
      · simp only [g, Bool.not_true, Bool.false_eq_true, if_false, if_true, Bool.or_false, List.nil_append]
        rw [h2 acc false (by omega)]
        simp [g]
      · have g' : aheadB xs[i] y = false := Bool.eq_false_iff.2 g
        simp only [g', Bool.not_false, Bool.false_eq_true, if_false, if_true, Bool.or_true]
        rw [if_pos (by omega), h2 _ true (by simp; omega)]
        simp [g']
    · rw [if_pos rfl, if_pos rfl]
      simp only [spec_l8Put.j1, Bool.false_eq_true, if_false, Bool.true_or, List.nil_append]
      rw [h2 acc true (by omega)]
theorem putL_ahead (y : S64) (B : List S64) : ∀ (A : List S64), (∀ q ∈ A, aheadB q y = true) → putL y (A ++ B) false = A ++ putL y B false
  | [], _ => rfl
  | q :: r, h => by
    have h1 := h q (by simp)
    have ih := putL_ahead y B r (fun z hz => h z (by simp [hz]))
    rw [List.cons_append, putL]
    simp [h1, ih]
theorem putL_done (y : S64) : ∀ (B : List S64), (∀ q ∈ B, aheadB q y = false) → putL y B true = B.filter (fun q => aheadB y q)
  | [], _ => rfl
  | q :: r, h => by
    have h1 := h q (by simp)
    rw [putL, Bool.true_or, putL_done y r (fun z hz => h z (by simp [hz])), List.filter_cons]
    by_cases g : aheadB y q = true <;> simp [h1, g]
theorem putL_behind (y : S64) (B : List S64) (h : ∀ q ∈ B, aheadB q y = false) : putL y B false = [y] ++ B.filter (fun q => aheadB y q) := by
  match B, h with
  | [], _ => rfl
  | q :: r, h =>
    have h1 := h q (by simp)
    rw [putL, h1, Bool.not_false, Bool.or_true, putL_done y r (fun z hz => h z (by simp [hz])), List.filter_cons]
    by_cases g : aheadB y q = true <;> simp [g]
theorem putL_at {xs : List S64} {y : S64} {p : Nat} (hr : ∀ (i j : Nat) (hi : i < j) (hj : j < xs.length), aheadB xs[i] xs[j] = true) (p2 : p ≤ xs.length) (p3 : ∀ (m : Nat) (hm : m < xs.length), m < p → aheadB xs[m] y = true) (p4 : ∀ (m : Nat) (hm : m < xs.length), p ≤ m → aheadB xs[m] y = false) :
    (∀ (h : p < xs.length), cmpB xs[p] y = 0 → putL y xs false = xs.take p ++ [y] ++ xs.drop (p + 1)) ∧ ((¬ ∃ h : p < xs.length, cmpB xs[p] y = 0) → putL y xs false = xs.take p ++ [y] ++ xs.drop p) := by
  have e0 : putL y xs false = xs.take p ++ ([y] ++ (xs.drop p).filter (fun q => aheadB y q)) := by
    have e1 : putL y xs false = putL y (xs.take p ++ xs.drop p) false := by rw [List.take_append_drop]
    rw [e1, putL_ahead, putL_behind]
    · intro q hq
      obtain ⟨i, hi, rfl⟩ := List.mem_iff_getElem.1 hq
      rw [List.length_drop] at hi
      rw [List.getElem_drop]
      exact p4 _ (by omega) (by omega)
    · intro q hq
      obtain ⟨i, hi, rfl⟩ := List.mem_iff_getElem.1 hq
      rw [List.length_take] at hi
      rw [List.getElem_take]
      exact p3 _ (by omega) (by omega)
  constructor
  · intro hp hz
    rw [cmpB_zero] at hz
    have e2 : (xs.drop p).filter (fun q => aheadB y q) = xs.drop (p + 1) := by
      rw [List.drop_eq_getElem_cons hp, List.filter_cons, if_neg (by rw [ahead_iff]; omega), List.filter_eq_self]
      intro q hq
      obtain ⟨i, hi, rfl⟩ := List.mem_iff_getElem.1 hq
      rw [List.length_drop] at hi
      rw [List.getElem_drop]
      have := hr p (p + 1 + i) (by omega) (by omega)
      rw [ahead_iff] at this ⊢
      omega
    rw [e0, e2, List.append_assoc]
  · intro hne
    have e2 : (xs.drop p).filter (fun q => aheadB y q) = xs.drop p := by
      rw [List.filter_eq_self]
      intro q hq
      obtain ⟨i, hi, rfl⟩ := List.mem_iff_getElem.1 hq
      rw [List.length_drop] at hi
      rw [List.getElem_drop]
      have hpl : p < xs.length := by omega
      have h1 := p4 p hpl (Nat.le_refl _)
      have h2 : ¬ cmpB xs[p] y = 0 := fun e => hne ⟨hpl, e⟩
      rw [cmpB_zero] at h2
      have h3 : ¬ aheadB xs[p] y = true := by simp [h1]
      rw [ahead_iff] at h3
      rw [ahead_iff]
      match i with
      | 0 => simp only [Nat.add_zero]; omega
      | i + 1 =>
        have := hr p (p + (i + 1)) (by omega) (by omega)
        rw [ahead_iff] at this
        omega
    rw [e0, e2, List.append_assoc]
def putB (xs : List S64) (y : S64) : Int × List S64 := if bindsF xs = 0 then (if keyB y.f0 y.f1 = true then (if symF y.f2.f0 y.f2.f1 = 0 then (if 24 < (putL y xs false).length then (2, []) else (0, putL y xs false)) else (symF y.f2.f0 y.f2.f1, [])) else (3, [])) else (bindsF xs, [])
theorem spec_PutBind_eq {k : Nat} (xs : List S64) (y : S64) (hk : 200 ≤ k) : spec_PutBind.f k xs y.f0 y.f1 y.f2.f0 y.f2.f1 = some (putB xs y) := by
  unfold spec_PutBind.f putB spec_l8Put.f
  rw [spec_l8Fault_eq _ (by omega)]
  simp only [Option.bind_some, spec_l8Key_eq, spec_l8Sym_eq]
  by_cases h : bindsF xs = 0
  · have hl := (binds_rise h).1
    have e : spec_l8Put.l0 k xs [] false 0 y.f0 y.f1 y.f2.f0 y.f2.f1 = some (putL y xs false) := by
      have := put_go hl y xs.length k 0 [] false (by omega) (Nat.zero_le _) (by omega) (Nat.zero_le _)
      simpa using this
    rw [if_pos h, if_pos h, e]
    simp only [Option.bind_some]
    by_cases g1 : keyB y.f0 y.f1 = true
    · rw [if_pos g1, if_pos g1]
      by_cases g2 : symF y.f2.f0 y.f2.f1 = 0
      · rw [if_pos g2, if_pos g2]
        by_cases g3 : 24 < (putL y xs false).length
        · rw [if_pos g3, if_pos (by omega)]
        · rw [if_neg g3, if_neg (by omega)]
      · rw [if_neg g2, if_neg g2]
    · rw [if_neg g1, if_neg g1]
  · rw [if_neg h, if_neg h]
theorem impl_PutBind_eq {k : Nat} (xs : List S64) (y : S64) (hk : 200 ≤ k) : impl_PutBind.f k xs y.f0 y.f1 y.f2.f0 y.f2.f1 = some (putB xs y) := by
  unfold impl_PutBind.f putB
  rw [impl_BindsFault_eq _ (by omega), impl_Bind_code_eq (by omega)]
  simp only [Option.bind_some]
  rw [impl_first2 (by omega)]
  simp only [Option.bind_some]
  by_cases h : bindsF xs = 0
  · obtain ⟨hl, hr⟩ := binds_rise h
    rw [if_pos h, if_pos h]
    by_cases g1 : keyB y.f0 y.f1 = true
    · rw [if_pos g1, if_pos g1]
      by_cases g2 : symF y.f2.f0 y.f2.f1 = 0
      · obtain ⟨p, p1, p2, p3, p4⟩ := search_at h y (k := k) (by omega)
        obtain ⟨f1, f2⟩ := putL_at hr p2 p3 p4
        rw [if_pos g2, if_pos g2]
        simp only [impl_Bind_69.f, Option.bind_some, List.nil_append, List.length_nil]
        rw [if_pos (by omega)]
        simp only [Option.bind_some, p1, decide_eq_true_eq, Int.toNat_natCast]
        by_cases hp : ∃ h : p < xs.length, cmpB xs[p] y = 0
        · have hb := hp.1
          rw [f1 hp.1 hp.2, if_pos hp, if_pos (by omega), if_pos (by omega), if_neg (by simp; omega), List.set_eq_take_append_cons_drop, if_pos hb]
          simp
        · rw [f2 hp, if_neg hp]
          have el : (xs.take p ++ [y] ++ xs.drop p).length = xs.length + 1 := by simp; omega
          rw [el]
          by_cases h3 : 24 ≤ xs.length
          · rw [if_pos (by omega), if_pos (by omega)]
          · rw [if_neg (by omega), if_neg (by omega)]
            unfold impl_Bind_72.f
            rw [if_pos (by simp), if_pos (by omega), if_pos (by omega), if_pos (by omega)]
            simp
      · rw [if_neg g2, if_neg g2]
    · rw [if_neg g1, if_neg g1, if_neg (by decide)]
  · rw [if_neg h, if_neg h, if_neg h]
theorem putL_len (y : S64) : ∀ (xs : List S64) (d : Bool), (putL y xs d).length ≤ xs.length + (if d = true then 0 else 1)
  | [], d => by cases d <;> simp [putL]
  | q :: r, d => by
    have h1 := putL_len y r (d || !aheadB q y)
    rw [putL, List.length_append, List.length_append, List.length_cons]
    have e2 : (if aheadB q y = true then [q] else if aheadB y q = true then [q] else ([] : List S64)).length ≤ 1 := by
      split
      · simp
      · split <;> simp
    cases d
    · by_cases g : aheadB q y = true
      · rw [g] at h1
        simp [g] at h1 ⊢
        omega
      · have g' : aheadB q y = false := Bool.eq_false_iff.2 g
        rw [g'] at h1
        simp [g'] at h1 e2 ⊢
        omega
    · simp at h1 ⊢
      omega
theorem putB_len (xs : List S64) (y : S64) : (putB xs y).2.length ≤ 24 := by
  unfold putB
  split
  · split
    · split
      · split
        · simp
        · simp only; omega
      · simp
    · simp
  · simp



/-- Bytes, as the drawing functions read them. -/
def Bs (xs : List Int) : Prop := xs.length ≤ 2000000 ∧ ∀ y ∈ xs, 0 ≤ y ∧ y ≤ 255
theorem tmod_lt' {x a : Int} (h0 : 0 ≤ x) (ha : 1 ≤ a) : 0 ≤ Int.tmod x a ∧ Int.tmod x a < a := by
  rw [Int.tmod_eq_emod_of_nonneg h0]
  exact ⟨Int.emod_nonneg _ (by omega), Int.emod_lt_of_pos _ (by omega)⟩
theorem rd_byte {xs : List Int} (hb : Bs xs) {i : Int} (h0 : 0 ≤ i) (hi : i < (xs.length : Int)) : 0 ≤ rd xs i ∧ rd xs i ≤ 255 := by
  obtain ⟨n, rfl⟩ := Int.eq_ofNat_of_zero_le h0
  rw [rd_nat (show n < xs.length by omega)]
  exact hb.2 _ (List.getElem_mem _)
theorem next_some {xs : List Int} (hb : Bs xs) {s : Int} (h0 : 0 ≤ s) (h1 : s ≤ 100000) (a : Int) : ∃ v : Int, spec_l1Next.f xs s a = some (v, s + 1) ∧ (1 ≤ a → 0 ≤ v ∧ v < a) := by
  have e1 : wrap64 (s + 1) = s + 1 := w64 (by omega)
  have e2 : wrap64 (s + 1 - 1) = s := by rw [w64 (by omega)]; omega
  unfold spec_l1Next.f
  simp only [e1, e2]
  by_cases g1 : a < 1
  · rw [if_pos g1]
    exact ⟨0, rfl, fun h => by omega⟩
  rw [if_neg g1]
  by_cases g2 : (xs.length : Int) = 0
  · rw [if_pos g2, if_neg (by omega), w64 (by omega)]
    exact ⟨_, rfl, fun h => tmod_lt' (by omega) h⟩
  rw [if_neg g2]
  have hl := hb.1
  obtain ⟨m0, m1⟩ := tmod_lt' (x := s) (a := (xs.length : Int)) h0 (by omega)
  rw [if_pos m0, if_pos m1]
  have hd : Int.tdiv s (xs.length : Int) = s / (xs.length : Int) := Int.tdiv_eq_ediv_of_nonneg h0
  have hq0 : 0 ≤ s / (xs.length : Int) := Int.ediv_nonneg h0 (by omega)
  have hq1 : s / (xs.length : Int) ≤ s := Int.ediv_le_self _ h0
  obtain ⟨b0, b1⟩ := rd_byte hb m0 m1
  have e3 : wrap64 (Int.tdiv s (xs.length : Int)) = s / (xs.length : Int) := by rw [hd]; exact w64 (by omega)
  have e4 : wrap64 (s / (xs.length : Int) * 37) = s / (xs.length : Int) * 37 := w64 (by omega)
  have e5 : wrap64 (rd xs (Int.tmod s (xs.length : Int))) = rd xs (Int.tmod s (xs.length : Int)) := w64 (by omega)
  have e6 : wrap64 (rd xs (Int.tmod s (xs.length : Int)) + s / (xs.length : Int) * 37) = rd xs (Int.tmod s (xs.length : Int)) + s / (xs.length : Int) * 37 := w64 (by omega)
  simp only [e1, e2, e3, e4, e5, e6]
  by_cases g3 : a > 200
  · rw [if_pos g3]
    obtain ⟨n0, n1⟩ := tmod_lt' (x := s + 1) (a := (xs.length : Int)) (by omega) (by omega)
    rw [if_pos n0, if_pos n1, if_neg (by omega)]
    obtain ⟨c0, c1⟩ := rd_byte hb n0 n1
    have e7 : wrap64 (rd xs (Int.tmod (s + 1) (xs.length : Int))) = rd xs (Int.tmod (s + 1) (xs.length : Int)) := w64 (by omega)
    have e8 : wrap64 (rd xs (Int.tmod (s + 1) (xs.length : Int)) * 13) = rd xs (Int.tmod (s + 1) (xs.length : Int)) * 13 := w64 (by omega)
    have e9 : wrap64 ((rd xs (Int.tmod s (xs.length : Int)) + s / (xs.length : Int) * 37) * 251) = (rd xs (Int.tmod s (xs.length : Int)) + s / (xs.length : Int) * 37) * 251 := w64 (by omega)
    simp only [e7, e8, e9]
    refine ⟨_, rfl, fun h => tmod_lt' ?_ h⟩
    rw [w64 (x := (rd xs (Int.tmod s (xs.length : Int)) + s / (xs.length : Int) * 37) * 251 + rd xs (Int.tmod (s + 1) (xs.length : Int)) * 13) (by omega), w64 (by omega)]
    omega
  · rw [if_neg g3, if_neg (by omega)]
    exact ⟨_, rfl, fun h => tmod_lt' (by omega) h⟩
theorem pick_some {xs : List Int} (hb : Bs xs) {s : Int} (h0 : 0 ≤ s) (h1 : s ≤ 100000) (l : List Int) (hl : 1 ≤ l.length) : ∃ v : Int, spec_l1Pick.f xs s l = some (v, s + 1) := by
  obtain ⟨v, hv, hr⟩ := next_some hb h0 h1 (l.length : Int)
  obtain ⟨r0, r1⟩ := hr (by omega)
  unfold spec_l1Pick.f
  rw [hv]
  simp only [Option.bind_some]
  rw [if_pos r0, if_pos r1]
  exact ⟨_, rfl⟩


theorem sym_draw {xs : List Int} (hb : Bs xs) {s : Int} (h0 : 0 ≤ s) (h1 : s ≤ 10000) : ∃ (u v t : Int), spec_l8DrawSym.f xs s = some (u, v, t) ∧ 0 ≤ t ∧ t ≤ s + 2 := by
  unfold spec_l8DrawSym.f
  obtain ⟨v, hv, _⟩ := next_some hb h0 (by omega) 8
  rw [hv]
  simp only [Option.bind_some]
  by_cases g0 : v = 0
  · obtain ⟨u, hu, _⟩ := next_some hb (s := s + 1) (by omega) (by omega) 4
    rw [if_pos g0, hu]
    exact ⟨_, _, _, rfl, by first | omega | (simp only []; omega), by first | omega | (simp only []; omega)⟩
  rw [if_neg g0]
  by_cases g1 : v = 1
  · obtain ⟨u, hu, _⟩ := next_some hb (s := s + 1) (by omega) (by omega) 3
    rw [if_pos g1, hu]
    exact ⟨_, _, _, rfl, by first | omega | (simp only []; omega), by first | omega | (simp only []; omega)⟩
  rw [if_neg g1]
  by_cases g2 : v = 2
  · obtain ⟨u, hu, _⟩ := next_some hb (s := s + 1) (by omega) (by omega) 3
    rw [if_pos g2, hu]
    exact ⟨_, _, _, rfl, by first | omega | (simp only []; omega), by first | omega | (simp only []; omega)⟩
  rw [if_neg g2]
  by_cases g3 : v = 3
  · rw [if_pos g3]
    exact ⟨_, _, _, rfl, by omega, by omega⟩
  rw [if_neg g3]
  obtain ⟨u, hu⟩ := pick_some hb (s := s + 1) (by omega) (by omega) [97, 111, 120, 65, 13, 127, 228, 3, 21, 32] (by simp)
  rw [hu]
  exact ⟨_, _, _, rfl, by first | omega | (simp only []; omega), by first | omega | (simp only []; omega)⟩
theorem put_some {l : List S64} (hl : l.length ≤ 24) (y : S64) {k : Nat} (hk : 100 ≤ k) : ∃ l' : List S64, spec_l8Put.f k l y.f0 y.f1 y.f2.f0 y.f2.f1 = some l' ∧ l'.length ≤ l.length + 1 ∧ 1 ≤ l'.length := by
  refine ⟨putL y l false, ?_, ?_, ?_⟩
  · have := put_go hl y l.length k 0 [] false (by omega) (Nat.zero_le _) (by omega) (Nat.zero_le _)
    unfold spec_l8Put.f
    simpa using this
  · have := putL_len y l false
    simpa using this
  · match l with
    | [] => simp [putL]
    | q :: r =>
      rw [putL]
      by_cases g : aheadB q y = true
      · simp [g] <;> omega
      · simp [g] <;> omega
theorem binds_loop {xs : List Int} (hb : Bs xs) : ∀ (d k : Nat) (l : List S64) (s : Int), 100 + d < k → 0 ≤ s → s + 4 * d ≤ 10000 → l.length + d ≤ 24 → 1 ≤ l.length → ∃ (l' : List S64) (t : Int), spec_l8Binds.l1 k l (d : Int) xs s = some (l', t) ∧ (l'.length ≤ l.length + d ∧ 1 ≤ l'.length) ∧ 0 ≤ t ∧ t ≤ s + 4 * d := by
  intro d
  induction d with
  | zero =>
    intro k l s hk h0 hs hl hp
    obtain ⟨k, rfl⟩ : ∃ m, k = m + 1 := ⟨k - 1, by omega⟩
    simp only [spec_l8Binds.l1]
    rw [if_neg (by omega)]
    exact ⟨l, s, rfl, ⟨by omega, hp⟩, h0, by omega⟩
  | succ d ih =>
    intro k l s hk h0 hs hl hp0
    obtain ⟨k, rfl⟩ : ∃ m, k = m + 1 := ⟨k - 1, by omega⟩
    obtain ⟨v, hv, _⟩ := next_some hb h0 (by omega) 9
    obtain ⟨u, hu⟩ := pick_some hb (s := s + 1) (by omega) (by omega) [0, 0, 1, 2, 4] (by simp)
    obtain ⟨x, y, t, ht, t0, t1⟩ := sym_draw hb (s := s + 1 + 1) (by omega) (by omega)
    obtain ⟨l', hp, hpl, hpp⟩ := put_some (show l.length ≤ 24 by omega) (⟨wrap64 (5 + v), u, ⟨x, y⟩⟩ : S64) (k := k) (by omega)
    dsimp only at hp
    simp only [spec_l8Binds.l1]
    rw [if_pos (by omega), hv]
    simp only [Option.bind_some]
    rw [hu]
    simp only [Option.bind_some]
    rw [ht]
    simp only [Option.bind_some]
    rw [hp]
    simp only [Option.bind_some]
    rw [w64 (x := ((d + 1 : Nat) : Int) - 1) (by omega)]
    have e : ((d + 1 : Nat) : Int) - 1 = (d : Int) := by omega
    rw [e]
    obtain ⟨l2, t2, g1, g2, g3, g4⟩ := ih k l' t (by omega) t0 (by omega) (by omega) hpp
    exact ⟨l2, t2, g1, ⟨by omega, g2.2⟩, g3, by omega⟩
theorem binds_first {xs : List Int} (hb : Bs xs) : ∀ (d k : Nat) (l : List S64) (x s : Int), 200 + d < k → 0 ≤ x → x + d = 3 → 0 ≤ s → s ≤ 1000 → l.length + d ≤ 3 → ∃ (l' : List S64) (t : Int), spec_l8Binds.l0 k l x xs s = some (l', t) ∧ (l'.length ≤ 16 ∧ 1 ≤ l'.length) ∧ 0 ≤ t ∧ t ≤ 2000 := by
  intro d
  induction d with
  | zero =>
    intro k l x s hk h0 hx hs hs1 hl
    obtain ⟨k, rfl⟩ : ∃ m, k = m + 1 := ⟨k - 1, by omega⟩
    simp only [spec_l8Binds.l0, Option.bind_some]
    obtain ⟨v, hv, hr⟩ := next_some hb hs (by omega) 8
    obtain ⟨r0, r1⟩ := hr (by omega)
    obtain ⟨d, rfl⟩ := Int.eq_ofNat_of_zero_le r0
    rw [if_neg (by omega), if_pos (by simp; omega), hv]
    simp only [Option.bind_some]
    obtain ⟨l2, t2, g1, g2, g3, g4⟩ := binds_loop hb d k (l ++ [(⟨4, 0, ⟨4, 0⟩⟩ : S64), ⟨5, 0, ⟨5, 3⟩⟩, ⟨6, 0, ⟨1, 97⟩⟩, ⟨7, 0, ⟨6, 1⟩⟩, ⟨8, 0, ⟨1, 13⟩⟩, ⟨9, 0, ⟨6, 0⟩⟩]) (s + 1) (by omega) (by omega) (by omega) (by simp; omega) (by simp)
    exact ⟨l2, t2, g1, ⟨by simp at g2; omega, g2.2⟩, g3, by omega⟩
  | succ d ih =>
    intro k l x s hk h0 hx hs hs1 hl
    obtain ⟨k, rfl⟩ : ∃ m, k = m + 1 := ⟨k - 1, by omega⟩
    have e : IntKind.u64.wrap x = x := by simp [IntKind.wrap, IntKind.bits, IntKind.signed]; omega
    simp only [spec_l8Binds.l0]
    rw [if_pos (by omega), e, if_pos h0, if_pos (by omega), w64 (x := x + 1) (by omega)]
    exact ih k _ (x + 1) s (by omega) (by omega) (by omega) hs hs1 (by simp; omega)
theorem bent_draw {k : Nat} (hk : 300 ≤ k) {xs : List Int} (hb : Bs xs) : ∃ (l : List S64) (s : Int), spec_l8Bent.f k xs 0 = some (l, s) ∧ 0 ≤ s ∧ s ≤ 3000 := by
  unfold spec_l8Bent.f spec_l8Binds.f
  obtain ⟨l, s, h, hl, h0, h1⟩ := binds_first hb 3 k [] 0 0 (by omega) (by omega) (by omega) (by omega) (by omega) (by simp)
  rw [h]
  simp only [Option.bind_some]
  obtain ⟨v, hv, _⟩ := next_some hb h0 (by omega) 12
  rw [hv]
  simp only [Option.bind_some]
  by_cases g0 : v = 0
  · obtain ⟨u, hu⟩ := pick_some hb (s := s + 1) (by omega) (by omega) [0, 40, 41] (by simp)
    obtain ⟨x, hx⟩ := pick_some hb (s := s + 1 + 1) (by omega) (by omega) [0, 8] (by simp)
    obtain ⟨a, b, t, ht, t0, t1⟩ := sym_draw hb (s := s + 1 + 1 + 1) (by omega) (by omega)
    rw [if_pos g0, hu]
    simp only [Option.bind_some]
    rw [hx]
    simp only [Option.bind_some]
    rw [ht]
    simp only [Option.bind_some]
    rw [if_pos (by omega)]
    exact ⟨_, _, rfl, t0, by omega⟩
  rw [if_neg g0]
  by_cases g1 : v = 1
  · obtain ⟨u, hu⟩ := pick_some hb (s := s + 1) (by omega) (by omega) [1, 3, 7, 0] (by simp)
    obtain ⟨x, hx⟩ := pick_some hb (s := s + 1 + 1) (by omega) (by omega) [3, 4, (-1)] (by simp)
    rw [if_pos g1, hu]
    simp only [Option.bind_some]
    rw [hx]
    simp only [Option.bind_some]
    rw [if_pos (by omega)]
    exact ⟨_, _, rfl, by first | omega | (simp only []; omega), by first | omega | (simp only []; omega)⟩
  rw [if_neg g1]
  by_cases g2 : v = 2
  · rw [if_pos g2, if_pos (by omega)]
    exact ⟨_, _, rfl, by first | omega | (simp only []; omega), by first | omega | (simp only []; omega)⟩
  rw [if_neg g2]
  exact ⟨_, _, rfl, by first | omega | (simp only []; omega), by first | omega | (simp only []; omega)⟩
theorem drawPut_some {k : Nat} (hk : 300 ≤ k) {xs : List Int} (hb : Bs xs) : ∃ (l : List S64) (a b c d : Int), spec_DrawPutBind.f k xs = some (l, a, b, c, d) := by
  unfold spec_DrawPutBind.f spec_l1Source.f
  simp only [Option.bind_some]
  obtain ⟨l, s, h, h0, h1⟩ := bent_draw hk hb
  rw [h]
  simp only [Option.bind_some]
  obtain ⟨v, hv, _⟩ := next_some hb h0 (by omega) 12
  rw [hv]
  simp only [Option.bind_some]
  obtain ⟨u, hu⟩ := pick_some hb (s := s + 1) (by omega) (by omega) [wrap64 (1 + v), 40, 41] (by simp)
  rw [hu]
  simp only [Option.bind_some]
  obtain ⟨x, hx⟩ := pick_some hb (s := s + 1 + 1) (by omega) (by omega) [0, 1, 7, 8] (by simp)
  rw [hx]
  simp only [Option.bind_some]
  obtain ⟨a, b, t, ht, _, _⟩ := sym_draw hb (s := s + 1 + 1 + 1) (by omega) (by omega)
  rw [ht]
  exact ⟨_, _, _, _, _, rfl⟩
theorem drawSym_some {xs : List Int} (hb : Bs xs) : ∃ (a b : Int), spec_DrawSymFault.f xs = some (a, b) := by
  unfold spec_DrawSymFault.f spec_l1Source.f spec_l1Chance.f
  simp only [Option.bind_some]
  obtain ⟨a, b, t, ht, t0, t1⟩ := sym_draw hb (s := 0) (by omega) (by omega)
  rw [ht]
  simp only [Option.bind_some]
  obtain ⟨v, hv, _⟩ := next_some hb t0 (by omega) 4
  rw [hv]
  simp only [Option.bind_some]
  by_cases g : v = 0
  · obtain ⟨u, hu, _⟩ := next_some hb (s := t + 1) (by omega) (by omega) 9
    obtain ⟨x, hx⟩ := pick_some hb (s := t + 1 + 1) (by omega) (by omega) [0, 1, 3, 4, 8, (-1)] (by simp)
    rw [if_pos (by simpa using g), hu]
    simp only [Option.bind_some]
    rw [hx]
    exact ⟨_, _, rfl⟩
  · rw [if_neg (by simpa using g)]
    exact ⟨_, _, rfl⟩
theorem drawOf_some {k : Nat} (hk : 300 ≤ k) {xs : List Int} (hb : Bs xs) : ∃ (l : List S64) (a b : Int), spec_DrawSymOf.f k xs = some (l, a, b) := by
  unfold spec_DrawSymOf.f spec_l1Source.f
  simp only [Option.bind_some]
  obtain ⟨l, s, h, h0, h1⟩ := bent_draw hk hb
  rw [h]
  simp only [Option.bind_some]
  obtain ⟨v, hv, _⟩ := next_some hb h0 (by omega) 14
  rw [hv]
  simp only [Option.bind_some]
  obtain ⟨w, hw, _⟩ := next_some hb (s := s + 1) (by omega) (by omega) 14
  rw [hw]
  simp only [Option.bind_some]
  obtain ⟨u, hu⟩ := pick_some hb (s := s + 1 + 1) (by omega) (by omega) [wrap64 (1 + v), wrap64 (1 + w), 0, 41] (by simp)
  rw [hu]
  simp only [Option.bind_some]
  obtain ⟨x, hx⟩ := pick_some hb (s := s + 1 + 1 + 1) (by omega) (by omega) [0, 1, 2, 4, 7, 8] (by simp)
  rw [hx]
  exact ⟨_, _, _, rfl⟩
theorem symOf_both {K : Nat} (hK : 300 ≤ K) (xs : List S64) (a m : Int) : ∃ s : Int × Int × Int, spec_SymOf.f K xs a m = some s ∧ impl_SymOf.f K xs a m = some s := by
  unfold spec_SymOf.f impl_SymOf.f
  rw [spec_l8Fault_eq _ (by omega), impl_BindsFault_eq _ (by omega)]
  simp only [Option.bind_some, spec_l8Key_eq, impl_isKey.f, impl_in_eq, impl_unless_eq, impl_first2 (show 3 ≤ K by omega)]
  by_cases hf : bindsF xs = 0
  · obtain ⟨s, s1, s2⟩ := symOf_same hf a m (k := K) (by omega)
    unfold keyB
    by_cases g1 : 1 ≤ a ∧ a ≤ 40 <;> by_cases g2 : 0 ≤ m ∧ m ≤ 7 <;> simp [hf, g1, g2, s1, s2]
  · by_cases g1 : 1 ≤ a ∧ a ≤ 40 <;> simp [hf, g1]
theorem symOf_at {K : Nat} (hK : 300 ≤ K) {xs : List S64} (hf : bindsF xs = 0) {a m : Int} (g1 : 1 ≤ a ∧ a ≤ 40) (g2 : 0 ≤ m ∧ m ≤ 7) : impl_SymOf.f K xs a m = some (0, (ofL a m xs (0, 0)).1, (ofL a m xs (0, 0)).2) := by
  unfold impl_SymOf.f
  rw [impl_BindsFault_eq _ (by omega)]
  simp only [Option.bind_some, impl_isKey.f, impl_in_eq, impl_unless_eq, impl_first2 (show 3 ≤ K by omega)]
  simp [hf, g1, g2, (symOf_val hf a m (k := K) (by omega)).2]
theorem ofL_other (a m : Int) : ∀ (xs : List S64) (s : Int × Int), ofL a m xs s = ofL a m (xs.filter (fun q => decide (q.f0 = a))) s
  | [], _ => rfl
  | q :: r, s => by
    by_cases e : q.f0 = a
    · have f1 : (q :: r).filter (fun q => decide (q.f0 = a)) = q :: r.filter (fun q => decide (q.f0 = a)) := by rw [List.filter_cons, if_pos (by simpa using e)]
      rw [f1]
      simp only [ofL, if_pos e]
      rw [ofL_other a m r s, ofL_other a m r (q.f2.f0, q.f2.f1)]
    · have f1 : (q :: r).filter (fun q => decide (q.f0 = a)) = r.filter (fun q => decide (q.f0 = a)) := by rw [List.filter_cons, if_neg (by simpa using e)]
      rw [f1]
      simp only [ofL, if_neg e]
      exact ofL_other a m r s
theorem putL_other {a : Int} {y : S64} (h : y.f0 ≠ a) : ∀ (xs : List S64) (d : Bool), (putL y xs d).filter (fun q => decide (q.f0 = a)) = xs.filter (fun q => decide (q.f0 = a))
  | [], d => by cases d <;> simp [putL, h]
  | q :: r, d => by
    have e1 : (if d = true then ([] : List S64) else if aheadB q y = true then [] else [y]).filter (fun q => decide (q.f0 = a)) = [] := by
      split
      · rfl
      · split
        · rfl
        · simp [h]
    have e2 : (if aheadB q y = true then [q] else if aheadB y q = true then [q] else ([] : List S64)).filter (fun q => decide (q.f0 = a)) = [q].filter (fun q => decide (q.f0 = a)) := by
      split
      · rfl
      · split
        · rfl
        · rename_i g1 g2
          rw [ahead_iff] at g1 g2
          have : ¬ q.f0 = a := by omega
          simp [this]
    rw [putL, List.filter_append, List.filter_append, e1, e2, putL_other h r, List.nil_append, ← List.filter_append, List.singleton_append]
theorem codeFrom_all (code : Int → Int) : ∀ (d i : Nat), (∀ j : Nat, i ≤ j → j < i + d → code (j : Int) = 0) → codeFrom code d (i : Int) = 0
  | 0, _, _ => rfl
  | d + 1, i, h => by
    rw [codeFrom, if_pos (h i (Nat.le_refl _) (by omega))]
    exact codeFrom_all code d (i + 1) (fun j h1 h2 => h j (by omega) (by omega))
theorem binds_zero {xs : List S64} (hl : xs.length ≤ 24) (hc : ∀ q ∈ xs, keyB q.f0 q.f1 = true ∧ symF q.f2.f0 q.f2.f1 = 0) (hr : xs.Pairwise (fun x y => aheadB x y = true)) : bindsF xs = 0 := by
  unfold bindsF
  rw [if_pos hl]
  refine codeFrom_all _ xs.length 0 (fun j _ hj => ?_)
  have hj' : j < xs.length := by omega
  obtain ⟨c1, c2⟩ := hc _ (List.getElem_mem hj')
  unfold bindC
  rw [rdBind hj', if_pos c1, if_pos c2]
  by_cases h0 : 0 < j
  · have e : (j : Int) - 1 = ((j - 1 : Nat) : Int) := by omega
    have := (List.pairwise_iff_getElem.1 hr) (j - 1) j (by omega) hj' (by omega)
    rw [e, rdBind (show j - 1 < xs.length by omega), if_neg (by simp [this])]
  · rw [if_neg (by omega)]
theorem binds_ok {xs : List S64} (h : bindsF xs = 0) : ∀ q ∈ xs, keyB q.f0 q.f1 = true ∧ symF q.f2.f0 q.f2.f1 = 0 := by
  intro q hq
  obtain ⟨j, hj, rfl⟩ := List.mem_iff_getElem.1 hq
  unfold bindsF at h
  split at h
  · have h1 := codeFrom_zero (bindC xs) xs.length 0 h j (by omega) (by omega)
    unfold bindC at h1
    rw [rdBind hj] at h1
    split at h1
    · rename_i g1
      split at h1
      · rename_i g2
        exact ⟨g1, g2⟩
      · rename_i g2
        exact absurd h1 g2
    · omega
  · omega
/-- What a bind that was put makes of right binds. -/
theorem put_right {l : List S64} {y : S64} (hf : bindsF l = 0) (hk : keyB y.f0 y.f1 = true) (hs : symF y.f2.f0 y.f2.f1 = 0) (hn : (putL y l false).length ≤ 24) {K : Nat} (hK : 300 ≤ K) : bindsF (putL y l false) = 0 ∧ ofL y.f0 y.f1 (putL y l false) (0, 0) = (y.f2.f0, y.f2.f1) := by
  obtain ⟨hl, hr⟩ := binds_rise hf
  obtain ⟨p, _, p2, p3, p4⟩ := search_at hf y (k := K) (by omega)
  obtain ⟨f1, f2⟩ := putL_at hr p2 p3 p4
  have hpw : l.Pairwise (fun x y => aheadB x y = true) := by
    rw [List.pairwise_iff_getElem]
    intro i j hi hj hij
    exact hr i j hij hj
  have hall := binds_ok hf
  have hA : ∀ q ∈ l.take p, aheadB q y = true := fun q hq => by
    obtain ⟨i, hi, rfl⟩ := List.mem_iff_getElem.1 hq
    rw [List.length_take] at hi
    rw [List.getElem_take]
    exact p3 i (by omega) (by omega)
  obtain ⟨B, hB, hBs, hBy⟩ : ∃ B : List S64, putL y l false = l.take p ++ [y] ++ B ∧ B.Sublist l ∧ ∀ q ∈ B, aheadB y q = true := by
    by_cases hp : ∃ h : p < l.length, cmpB l[p] y = 0
    · refine ⟨l.drop (p + 1), f1 hp.1 hp.2, List.drop_sublist _ _, fun q hq => ?_⟩
      have hz := (cmpB_zero _ _).1 hp.2
      have hb := hp.1
      obtain ⟨i, hi, rfl⟩ := List.mem_iff_getElem.1 hq
      rw [List.length_drop] at hi
      rw [List.getElem_drop]
      have := hr p (p + 1 + i) (by omega) (by omega)
      rw [ahead_iff] at this ⊢
      omega
    · refine ⟨l.drop p, f2 hp, List.drop_sublist _ _, fun q hq => ?_⟩
      have key : ∀ (j : Nat) (hj : j < l.length), p ≤ j → aheadB y l[j] = true := by
        intro j hj hpj
        have hpl : p < l.length := by omega
        have h1 := p4 p hpl (Nat.le_refl _)
        have h2 : ¬ cmpB l[p] y = 0 := fun e => hp ⟨hpl, e⟩
        rw [cmpB_zero] at h2
        have h3 : ¬ aheadB l[p] y = true := by simp [h1]
        rw [ahead_iff] at h3
        rw [ahead_iff]
        by_cases e : j = p
        · subst e
          omega
        · have := hr p j (by omega) hj
          rw [ahead_iff] at this
          omega
      obtain ⟨i, hi, rfl⟩ := List.mem_iff_getElem.1 hq
      rw [List.length_drop] at hi
      rw [List.getElem_drop]
      exact key _ (by omega) (by omega)
  have hpw2 : (putL y l false).Pairwise (fun x y => aheadB x y = true) := by
    rw [hB, List.append_assoc, List.pairwise_append]
    refine ⟨hpw.sublist (List.take_sublist _ _), ?_, fun x hx z hz => ?_⟩
    · rw [List.singleton_append, List.pairwise_cons]
      exact ⟨hBy, hpw.sublist hBs⟩
    · have h1 := hA x hx
      rw [List.singleton_append, List.mem_cons] at hz
      rcases hz with rfl | hz
      · exact h1
      · have h2 := hBy z hz
        rw [ahead_iff] at h1 h2 ⊢
        omega
  refine ⟨binds_zero hn (fun q hq => ?_) hpw2, ?_⟩
  · rw [hB, List.append_assoc, List.mem_append, List.mem_append, List.mem_singleton] at hq
    rcases hq with h | rfl | h
    · exact hall q (List.mem_of_mem_take h)
    · exact ⟨hk, hs⟩
    · exact hall q (hBs.subset h)
  · rw [ofL_find _ _ _ _ hpw2, hB]
    have n1 : (l.take p).find? (isB y.f0 y.f1) = none := by
      rw [List.find?_eq_none]
      intro q hq e
      have := hA q hq
      rw [ahead_iff] at this
      simp [isB] at e
      omega
    have e1 : (l.take p ++ [y] ++ B).find? (isB y.f0 y.f1) = some y := by
      rw [List.append_assoc, List.find?_append, n1, List.singleton_append, List.find?_cons_of_pos (by simp [isB])]
      rfl
    rw [e1]
    rfl
theorem binds_l1 {xs : List Int} {l l' : List S64} {a b c d z : Int} (f1 : bindsF l = 0) (f2 : bindsF l' = 0) (he : ∀ (key m : Int), key ≠ a → ofL key m l' (0, 0) = ofL key m l (0, 0)) (R : Option Bool) (K : Nat) (hK : 300 ≤ K) (key : Int) (hk : 1 ≤ key ∧ key ≤ 15)
    (hR : ∀ k, K ≤ k → laws_FnBinds.l0 k xs l (key + 1) a b c d z l' = R) :
    ∀ (n k : Nat) (m : Int), m + n = 3 → 0 ≤ m → K + n < k → laws_FnBinds.l1 k xs l key m a b c d z l' = R := by
  intro n
  induction n with
  | zero =>
    intro k m hm h0 hk'
    obtain ⟨k, rfl⟩ : ∃ q, k = q + 1 := ⟨k - 1, by omega⟩
    simp only [laws_FnBinds.l1]
    rw [if_neg (by omega), w64 (by omega)]
    exact hR k (by omega)
  | succ n ih =>
    intro k m hm h0 hk'
    obtain ⟨k, rfl⟩ : ∃ q, k = q + 1 := ⟨k - 1, by omega⟩
    simp only [laws_FnBinds.l1]
    rw [if_pos (by omega), w64 (x := m + 1) (by omega)]
    have h2 := ih k (m + 1) (by omega) (by omega) (by omega)
    by_cases e : key = a
    · rw [if_pos e]
      exact h2
    · rw [if_neg e, symOf_at (by omega) f2 ⟨by omega, by omega⟩ ⟨by omega, by omega⟩, Option.bind_some, symOf_at (by omega) f1 ⟨by omega, by omega⟩ ⟨by omega, by omega⟩, Option.bind_some, he key m e]
      rw [if_neg (by simp)]
      exact h2
theorem binds_l0 {xs : List Int} {l l' : List S64} {a b c d z : Int} (f1 : bindsF l = 0) (f2 : bindsF l' = 0) (he : ∀ (key m : Int), key ≠ a → ofL key m l' (0, 0) = ofL key m l (0, 0)) (R : Option Bool) (K : Nat) (hK : 300 ≤ K)
    (hR : ∀ k, K ≤ k → laws_FnBinds.l0 (k + 1) xs l 16 a b c d z l' = R) :
    ∀ (n k : Nat) (key : Int), key + n = 16 → 1 ≤ key → K + 5 * n < k → laws_FnBinds.l0 k xs l key a b c d z l' = R := by
  intro n
  induction n with
  | zero =>
    intro k key hm h0 hk'
    obtain ⟨k, rfl⟩ : ∃ q, k = q + 1 := ⟨k - 1, by omega⟩
    obtain rfl : key = 16 := by omega
    exact hR k (by omega)
  | succ n ih =>
    intro k key hm h0 hk'
    obtain ⟨k, rfl⟩ : ∃ q, k = q + 1 := ⟨k - 1, by omega⟩
    simp only [laws_FnBinds.l0]
    rw [if_pos (by omega)]
    exact binds_l1 f1 f2 he R (K + 5 * n + 1) (by omega) key ⟨by omega, by omega⟩ (fun k' hk2 => ih k' (key + 1) (by omega) (by omega) (by omega)) 3 k 0 (by omega) (by omega) (by omega)
theorem FnBinds : laws_FnBinds.Pure := by
  intro xs hm hb hw
  refine ⟨1000, ?_⟩
  generalize hK : (1000 : Nat) = K
  unfold laws_FnBinds.f laws_lwBig.f
  simp only [Option.bind_some, decide_eq_true_eq]
  by_cases hbig : (xs.length : Int) > 1048576
  · rw [if_pos hbig]
  rw [if_neg hbig]
  have hB : Bs xs := ⟨by omega, fun y hy => wf_u8 (hw y hy)⟩
  obtain ⟨l, a, b, c, d, h1⟩ := drawPut_some (k := K) (by omega) hB
  rw [h1, Option.bind_some]
  have e1 := impl_PutBind_eq (k := K) l ⟨a, b, ⟨c, d⟩⟩ (by omega)
  have e2 := spec_PutBind_eq (k := K) l ⟨a, b, ⟨c, d⟩⟩ (by omega)
  dsimp only at e1 e2 ⊢
  rw [e1, Option.bind_some]
  by_cases hz : (putB l (⟨a, b, ⟨c, d⟩⟩ : S64)).1 = 0
  · rw [if_pos hz]
    obtain ⟨hf, hky, hsy, hn, hpe⟩ : bindsF l = 0 ∧ keyB a b = true ∧ symF c d = 0 ∧ (putL (⟨a, b, ⟨c, d⟩⟩ : S64) l false).length ≤ 24 ∧ putB l (⟨a, b, ⟨c, d⟩⟩ : S64) = (0, putL ⟨a, b, ⟨c, d⟩⟩ l false) := by
      unfold putB at hz ⊢
      by_cases q1 : bindsF l = 0
      · rw [if_pos q1] at hz ⊢
        by_cases q2 : keyB a b = true
        · dsimp only at hz ⊢
          rw [if_pos q2] at hz ⊢
          by_cases q3 : symF c d = 0
          · rw [if_pos q3] at hz ⊢
            by_cases q4 : 24 < (putL (⟨a, b, ⟨c, d⟩⟩ : S64) l false).length
            · rw [if_pos q4] at hz
              simp at hz
            · rw [if_neg q4]
              exact ⟨q1, q2, q3, by omega, rfl⟩
          · rw [if_neg q3] at hz
            exact absurd hz q3
        · dsimp only at hz
          rw [if_neg q2] at hz
          simp at hz
      · rw [if_neg q1] at hz
        exact absurd hz q1
    obtain ⟨f2, o1⟩ := put_right (y := (⟨a, b, ⟨c, d⟩⟩ : S64)) hf hky hsy hn (K := K) (by omega)
    have hne : 0 < (putL (⟨a, b, ⟨c, d⟩⟩ : S64) l false).length := by
      match l with
      | [] => simp [putL]
      | q :: r =>
        rw [putL]
        by_cases g : aheadB q (⟨a, b, ⟨c, d⟩⟩ : S64) = true <;> simp [g]
    have he : ∀ (key m : Int), key ≠ a → ofL key m (putL (⟨a, b, ⟨c, d⟩⟩ : S64) l false) (0, 0) = ofL key m l (0, 0) := fun key m hne2 => by
      rw [ofL_other, putL_other (y := (⟨a, b, ⟨c, d⟩⟩ : S64)) (fun e => hne2 e.symm), ← ofL_other]
    rw [hpe]
    dsimp only at o1 ⊢
    generalize putL (⟨a, b, ⟨c, d⟩⟩ : S64) l false = l' at f2 o1 hne he ⊢
    have hkk : (1 ≤ a ∧ a ≤ 40) ∧ (0 ≤ b ∧ b ≤ 7) := by
      unfold keyB at hky
      simpa using hky
    obtain ⟨u, v, h2⟩ := drawSym_some hB
    have main := binds_l0 (xs := xs) (b := b) (c := c) (d := d) (z := 0) hf f2 he (some true) 400 (by omega) (fun k hk => by
      obtain ⟨m, x, y, h3⟩ := drawOf_some (k := k) (by omega) hB
      obtain ⟨s, s1, s2⟩ := symOf_both (K := k) (by omega) m x y
      simp only [laws_FnBinds.l0]
      rw [if_neg (by omega), h2, Option.bind_some, h3, Option.bind_some]
      dsimp only
      rw [s2, Option.bind_some, impl_BindsFault_eq _ (by omega), Option.bind_some, if_pos f2, symOf_at (by omega) f2 hkk.1 hkk.2, Option.bind_some, o1]
      unfold spec_SymFault.f
      rw [if_pos (by simp), impl_SymFault_eq (by omega), Option.bind_some, spec_l8Sym_eq, Option.bind_some, Option.bind_some, if_pos rfl, s1, Option.bind_some, if_pos rfl, Option.bind_some, if_pos (by simp)]
      simp
      omega) 15 K 1 (by omega) (by omega) (by omega)
    exact main
  · unfold spec_BindsFault.f
    rw [if_neg hz, e2, Option.bind_some, if_pos rfl, impl_BindsFault_eq _ (by omega), Option.bind_some, spec_l8Fault_eq _ (by omega), Option.bind_some, Option.bind_some]
    simp

end Go.Proofs.Ytpoafgokngpglaa.Pure
