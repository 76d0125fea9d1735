/- SymOf: for every list of binds and every two numbers the program's answer is the reference's, and the binds stay as they were. No condition. -/
import Derived.Test.YticblminpeodjaaPFnExactSymOfx
import Derived.Test.YticblminpeodjaaPlain
namespace Go.Proofs.Yticblminpeodjaa.Pure
open Go Go.RowKit Go.Proofs.Yticblminpeodjaa.PFnExactSymOf Go.Proofs.YticblminpeodjaaW.PrintWords Go.Proofs.YticblminpeodjaaW.PrintLast Go.Proofs.YticblminpeodjaaPlain
set_option linter.unusedVariables false
set_option linter.unusedSimpArgs false

instance : DecidableEq S23 := fun a b => match a, b with
  | ⟨a0, a1⟩, ⟨b0, b1⟩ => decidable_of_iff (a0 = b0 ∧ a1 = b1) (by simp)
instance : DecidableEq S63 := fun a b => match a, b with
  | ⟨a0, a1, a2⟩, ⟨b0, b1, b2⟩ => decidable_of_iff (a0 = b0 ∧ a1 = b1 ∧ a2 = b2) (by simp)
instance : DecidableEq S25 := fun a b => match a, b with
  | ⟨a0, a1⟩, ⟨b0, b1⟩ => decidable_of_iff (a0 = b0 ∧ a1 = b1) (by simp)
instance : DecidableEq S68 := fun a b => match a, b with
  | ⟨a0, a1, a2⟩, ⟨b0, b1, b2⟩ => decidable_of_iff (a0 = b0 ∧ a1 = b1 ∧ a2 = b2) (by simp)

theorem spec_l1In_eq (x a b : Int) : spec_l1In.f x a b = some (decide (a ≤ x ∧ x ≤ b)) := by
  unfold spec_l1In.f
  split <;> (congr 1; simp_all) <;> omega

theorem impl_in_eq (x a b : Int) : impl_in.f x a b = some (decide (a ≤ x ∧ x ≤ b)) := by
  unfold impl_in.f
  split <;> (congr 1; simp_all) <;> omega

theorem spec_l1Char_eq (x : Int) : spec_l1Char.f x = some (isCh x) := by
  unfold spec_l1Char.f isCh
  simp only [spec_l1In_eq, Option.bind_some]
  by_cases h : 0 ≤ x ∧ x ≤ 55295
  · simp [h]
  · rw [if_neg (by simpa using h)]
    congr 1
    simp only [h, false_or]

theorem impl_isChar_eq (x : Int) : impl_isChar.f x = some (isCh x) := by
  unfold impl_isChar.f isCh
  simp only [impl_in_eq, Option.bind_some]
  by_cases h : 0 ≤ x ∧ x ≤ 65535
  · rw [if_pos (by simpa using h), ← decide_not]
    congr 1
    refine decide_eq_decide.2 ?_
    omega
  · rw [if_neg (by simpa using h)]
    congr 1
    symm
    rw [decide_eq_false_iff_not]
    omega

theorem impl_isBit_eq (x : Int) : impl_isBit.f x = some (decide (x = 1 ∨ x = 2 ∨ x = 4)) := by
  unfold impl_isBit.f
  by_cases h1 : x = 1 <;> by_cases h2 : x = 2 <;> simp [h1, h2] <;> rfl
/-- Has a sym the value of its kind? -/
def symV (a b : Int) : Bool := if a = 1 then isCh b else if a = 2 then decide (0 ≤ b ∧ b ≤ 3) else if a = 3 then decide (b = 1 ∨ b = 2 ∨ b = 4) else if a = 5 then decide (1 ≤ b ∧ b ≤ 3) else if a = 6 then decide (0 ≤ b ∧ b ≤ 2) else decide (b = 0)
/-- What is wrong with a sym. -/
def symF (a b : Int) : Int := if 0 ≤ a ∧ a ≤ 6 then (if symV a b = true then 0 else 3) else 1
theorem spec_l8Value_eq (a b : Int) : spec_l8Value.f a b = some (symV a b) := by
  unfold spec_l8Value.f symV
  simp only [spec_l1In_eq, spec_l1Char_eq, Option.bind_some]
  by_cases h1 : a = 1
  · simp [h1]
  by_cases h2 : a = 2
  · simp [h2]
  by_cases h3 : a = 3
  · subst h3
    by_cases g1 : b = 1 <;> by_cases g2 : b = 2 <;> simp [g1, g2] <;> rfl
  by_cases h4 : a = 5
  · simp [h4]
  by_cases h5 : a = 6
  · simp [h5]
  simp [h1, h2, h3, h4, h5]
  rfl
theorem spec_l8Sym_eq (a b : Int) : spec_l8Sym.f a b = some (symF a b) := by
  unfold spec_l8Sym.f symF
  simp only [spec_l1In_eq, spec_l8Value_eq, Option.bind_some]
  by_cases h : 0 ≤ a ∧ a ≤ 6
  · simp only [h, and_self, decide_true, if_true]
    split <;> simp_all
  · simp only [h, decide_false, Bool.false_eq_true, if_false]
theorem impl_SymFault_eq {k : Nat} (hk : 1 ≤ k) (a b : Int) : impl_SymFault.f k a b = some (symF a b) := by
  obtain ⟨k, rfl⟩ : ∃ m, k = m + 1 := ⟨k - 1, by omega⟩
  unfold impl_SymFault.f symF
  simp only [impl_SymFault.j0, impl_in_eq, impl_isChar_eq, impl_isBit_eq, impl_unless.f, Option.bind_some]
  by_cases h0 : a = 0
  · subst h0
    by_cases g : b = 0 <;> simp [symV, g]
  by_cases h1 : a = 1
  · subst h1
    cases g : isCh b <;> simp [symV, g]
  by_cases h2 : a = 2
  · subst h2
    by_cases g : 0 ≤ b ∧ b ≤ 3 <;> simp [symV, g]
  by_cases h3 : a = 3
  · subst h3
    by_cases g : b = 1 ∨ b = 2 ∨ b = 4 <;> simp [symV, g]
  by_cases h4 : a = 4
  · subst h4
    by_cases g : b = 0 <;> simp [symV, g]
  by_cases h5 : a = 5
  · subst h5
    by_cases g : 1 ≤ b ∧ b ≤ 3 <;> simp [symV, g]
  by_cases h6 : a = 6
  · subst h6
    by_cases g : 0 ≤ b ∧ b ≤ 2 <;> simp [symV, g]
  have h : ¬ (0 ≤ a ∧ a ≤ 6) := by omega
  simp [h0, h1, h2, h3, h4, h5, h6, h]

theorem impl_first2 {k : Nat} (hk : 3 ≤ k) (a b : Int) : impl_first.f k [a, b] = some (if a = 0 then b else a) := by
  obtain ⟨k, rfl⟩ : ∃ m, k = m + 3 := ⟨k - 3, by omega⟩
  have w0 : wrap64 1 = 1 := by unfold wrap64; omega
  have w1 : wrap64 2 = 2 := by unfold wrap64; omega
  by_cases h1 : a = 0
  · by_cases h2 : b = 0
    · simp [impl_first.f, impl_first.l0, rd, w0, w1, h1, h2]
    · simp [impl_first.f, impl_first.l0, rd, w0, w1, h1, h2]
  · simp [impl_first.f, impl_first.l0, rd, w0, w1, h1]

theorem impl_unless_eq (b : Bool) (x : Int) : impl_unless.f b x = some (if b = true then 0 else x) := by
  unfold impl_unless.f
  split <;> rfl

theorem laws_szBindS_eq {xs} {n : Int} (h : (List.length xs : Int) ≤ 8796093022208) (hn : n ≤ 1048576) (h0 : -1 ≤ n) : laws_szBindS.f xs n = some (if n - (List.length xs : Int) < 0 then -1 else n - (List.length xs : Int)) := by
  unfold laws_szBindS.f
  rw [w64 (by omega)]
  split <;> rfl


def toBind (x : S63) : S68 := ⟨x.f0, x.f1, ⟨x.f2.f0, x.f2.f1⟩⟩
theorem rdBinda {xs : List S63} {i : Nat} (h : i < xs.length) : rd_T63 xs (i : Int) = xs[i] := rdOf_nat h
theorem rdBind {xs : List S68} {i : Nat} (h : i < xs.length) : rd_T68 xs (i : Int) = xs[i] := rdOf_nat h
theorem laws_toBindS_eq {k : Nat} {xs : List S63} (hb : xs.length ≤ 8796093022208) (hk : xs.length < k) : laws_toBindS.f k xs = some (xs.map toBind) := by
  unfold laws_toBindS.f
  rw [if_pos (by omega), if_pos (by omega)]
  exact copy_loop laws_toBindS.l0 toBind rd_T63 (fun a c => c (toBind a)) (fun xs i h => rdBinda h) (fun k xs ys i => by
    simp only [laws_toBindS.l0, laws_toBind.f, laws_toSym.f, Option.bind_some]
    rfl) (fun a c => rfl) (xs := xs) (by omega) _ k 0 (List.replicate ((xs.length : Int)).toNat z68) (by simp) rfl (Nat.zero_le _) hk (by simp)
theorem laws_eqBind_eq (a b : S68) : laws_eqBind.f a.f0 a.f1 a.f2.f0 a.f2.f1 b.f0 b.f1 b.f2.f0 b.f2.f1 = some (decide (a = b)) := by
  unfold laws_eqBind.f laws_eqSym.f
  obtain ⟨a0, a1, a2, a3⟩ := a
  obtain ⟨b0, b1, b2, b3⟩ := b
  by_cases h1 : a0 = b0 <;> by_cases h2 : a1 = b1 <;> by_cases h3 : a2 = b2 <;> by_cases h4 : a3 = b3 <;> simp [h1, h2, h3, h4]
theorem laws_eqBindS_eq {k : Nat} {xs ys : List S68} (hb : xs.length ≤ 4611686018427387904) (hk : xs.length < k) : laws_eqBindS.f k xs ys = some (decide (xs = ys)) :=
  eq_fun (fun hl => eq_loop laws_eqBindS.l0 rd_T68 (fun a b c => if a = b then c else some false) (fun xs i h => rdBind h) (fun k xs ys i => by simp only [laws_eqBindS.l0, laws_eqBind_eq, Option.bind_some, decide_eq_true_eq]) (fun a b c => rfl) hl hb _ k 0 rfl (Nat.zero_le _) (by omega))



def keyB (a b : Int) : Bool := decide (1 ≤ a ∧ a ≤ 40) && decide (0 ≤ b ∧ b ≤ 7)
def aheadB (x y : S68) : Bool := decide (x.f0 < y.f0 ∨ (x.f0 = y.f0 ∧ x.f1 < y.f1))
theorem spec_l8Key_eq (a b : Int) : spec_l8Key.f a b = some (keyB a b) := by
  unfold spec_l8Key.f keyB
  simp only [spec_l1In_eq, Option.bind_some]
  by_cases h : 1 ≤ a ∧ a ≤ 40 <;> simp [h]
theorem spec_l8Ahead_eq (x y : S68) : spec_l8Ahead.f x.f0 x.f1 x.f2.f0 x.f2.f1 y.f0 y.f1 y.f2.f0 y.f2.f1 = some (aheadB x y) := by
  unfold spec_l8Ahead.f aheadB
  by_cases h1 : x.f0 < y.f0
  · simp [h1]
  · by_cases h2 : x.f0 = y.f0 <;> simp [h1, h2]
/-- What is wrong with the i-th bind. -/
def bindC (xs : List S68) (i : Int) : Int := if keyB (rd_T68 xs i).f0 (rd_T68 xs i).f1 = true then (if symF (rd_T68 xs i).f2.f0 (rd_T68 xs i).f2.f1 = 0 then (if 0 < i ∧ ¬ aheadB (rd_T68 xs (i - 1)) (rd_T68 xs i) = true then 1 else 0) else symF (rd_T68 xs i).f2.f0 (rd_T68 xs i).f2.f1) else 3
def bindsF (xs : List S68) : Int := if xs.length ≤ 24 then codeFrom (bindC xs) xs.length 0 else 2
theorem spec_l8Fault_eq {k : Nat} (xs : List S68) (hk : 60 ≤ k) : spec_l8Fault.f k xs = some (bindsF xs) := by
  unfold spec_l8Fault.f bindsF
  by_cases h2 : xs.length ≤ 24
  · rw [if_neg (by omega), if_pos h2]
    exact code_loop (fun k i => spec_l8Fault.l0 k xs i) (bindC xs) xs.length 0 (fun k i hk h0 hi => by
        have e1 : wrap64 (i - 1) = i - 1 := w64 (by omega)
        have e2 : wrap64 (i + 1) = i + 1 := w64 (by omega)
        have e3 : i - 1 < (xs.length : Int) := by omega
        simp only [spec_l8Fault.l0, spec_l8Key_eq, spec_l8Sym_eq, spec_l8Ahead_eq, Option.bind_some, if_pos h0, if_pos hi, e1, e2, if_pos e3]
        unfold bindC
        by_cases g1 : keyB (rd_T68 xs i).f0 (rd_T68 xs i).f1 = true
        · by_cases g2 : symF (rd_T68 xs i).f2.f0 (rd_T68 xs i).f2.f1 = 0
          · by_cases g3 : 0 < i
            · have e4 : 0 ≤ i - 1 := by omega
              have e5 : 1 ≤ i := by omega
              by_cases g4 : aheadB (rd_T68 xs (i - 1)) (rd_T68 xs i) = true <;> simp [g1, g2, g3, g4, e4, e5]
            · simp [g1, g2, g3]
          · simp [g1, g2]
        · simp [g1]) (fun k hk => by simp only [spec_l8Fault.l0]; rw [if_neg (by omega)]) xs.length k 0 (by omega) (by omega) (by omega)
  · rw [if_pos (by omega), if_neg h2]
theorem symF_code (a b : Int) : symF a b = 0 ∨ symF a b = 1 ∨ symF a b = 3 := by
  unfold symF
  split
  · split <;> simp
  · simp
theorem impl_Bind_code_eq {k : Nat} (hk : 4 ≤ k) (x : S68) : impl_Bind_code.f k x.f0 x.f1 x.f2.f0 x.f2.f1 = some (if keyB x.f0 x.f1 = true then symF x.f2.f0 x.f2.f1 else 3) := by
  unfold impl_Bind_code.f impl_isKey.f keyB
  simp only [impl_in_eq, impl_unless_eq, Option.bind_some, impl_SymFault_eq (show 1 ≤ k by omega), impl_first2 (show 3 ≤ k by omega)]
  by_cases h1 : 1 ≤ x.f0 ∧ x.f0 ≤ 40 <;> by_cases h2 : 0 ≤ x.f1 ∧ x.f1 ≤ 7 <;> simp [h1, h2]
theorem cmp_Or2 {k : Nat} (hk : 3 ≤ k) (a b : Int) : cmp_Or_int.f k [a, b] = some (if a = 0 then b else a) := by
  obtain ⟨k, rfl⟩ : ∃ m, k = m + 3 := ⟨k - 3, by omega⟩
  have w0 : wrap64 1 = 1 := by unfold wrap64; omega
  have w1 : wrap64 2 = 2 := by unfold wrap64; omega
  by_cases h1 : a = 0
  · by_cases h2 : b = 0
    · simp [cmp_Or_int.f, cmp_Or_int.l0, rd, w0, w1, h1, h2]
    · simp [cmp_Or_int.f, cmp_Or_int.l0, rd, w0, w1, h1, h2]
  · simp [cmp_Or_int.f, cmp_Or_int.l0, rd, w0, w1, h1]
def cmpI (a b : Int) : Int := if a < b then -1 else if a > b then 1 else 0
theorem cmp_Compare_eq (a b : Int) : cmp_Compare_int64.f a b = some (cmpI a b) := by
  unfold cmp_Compare_int64.f cmp_isNaN_int64.f cmpI
  simp
  split
  · rfl
  · split <;> rfl
def cmpB (x y : S68) : Int := if cmpI x.f0 y.f0 = 0 then cmpI x.f1 y.f1 else cmpI x.f0 y.f0
theorem impl_Bind_compare_eq {k : Nat} (hk : 3 ≤ k) (x y : S68) : impl_Bind_compare.f k x.f0 x.f1 x.f2.f0 x.f2.f1 y.f0 y.f1 y.f2.f0 y.f2.f1 = some (cmpB x y) := by
  unfold impl_Bind_compare.f
  simp only [cmp_Compare_eq, Option.bind_some, cmp_Or2 hk]
  rfl
theorem cmpB_ahead (x y : S68) : decide (cmpB x y < 0) = aheadB x y := by
  unfold cmpB cmpI aheadB
  refine decide_eq_decide.2 ?_
  by_cases h1 : x.f0 < y.f0
  · simp [h1]
  · by_cases h2 : x.f0 > y.f0
    · have h3 : ¬ x.f0 = y.f0 := by omega
      simp [h1, h2, h3]
    · have h3 : x.f0 = y.f0 := by omega
      by_cases h4 : x.f1 < y.f1
      · simp [h1, h2, h3, h4]
      · by_cases h5 : x.f1 > y.f1 <;> simp [h1, h2, h3, h4, h5]
theorem impl_BindsFault_eq {k : Nat} (xs : List S68) (hk : 60 ≤ k) : impl_BindsFault.f k xs = some (bindsF xs) := by
  unfold impl_BindsFault.f bindsF
  by_cases h2 : xs.length ≤ 24
  · rw [if_neg (by omega), if_pos h2]
    exact code_loop (fun k i => impl_BindsFault.l0 k xs xs (xs.length : Int) i) (bindC xs) xs.length 10 (fun k i hk h0 hi => by
        have e1 : wrap64 (i - 1) = i - 1 := w64 (by omega)
        have e2 : wrap64 (i + 1) = i + 1 := w64 (by omega)
        have e3 : i - 1 < (xs.length : Int) := by omega
        simp only [impl_BindsFault.l0, impl_Bind_code_eq (show 4 ≤ k by omega), impl_Bind_compare_eq (show 3 ≤ k by omega), cmpB_ahead, impl_unless_eq, impl_first2 (show 3 ≤ k by omega), Option.bind_some, if_pos h0, if_pos hi, e1, e2, if_pos e3]
        unfold bindC
        by_cases g2 : i = 0
        · subst g2
          by_cases g1 : keyB (rd_T68 xs 0).f0 (rd_T68 xs 0).f1 = true
          · rcases symF_code (rd_T68 xs 0).f2.f0 (rd_T68 xs 0).f2.f1 with g | g | g <;> simp [g1, g]
          · simp [g1]
        · have e4 : 0 ≤ i - 1 := by omega
          have e5 : 1 ≤ i := by omega
          have e6 : 0 < i := by omega
          by_cases g1 : keyB (rd_T68 xs i).f0 (rd_T68 xs i).f1 = true
          · by_cases g4 : aheadB (rd_T68 xs (i - 1)) (rd_T68 xs i) = true <;> rcases symF_code (rd_T68 xs i).f2.f0 (rd_T68 xs i).f2.f1 with g | g | g <;> simp [g1, g2, g4, g, e4, e5, e6]
          · simp [g1, g2, e4, e5]) (fun k hk => by simp only [impl_BindsFault.l0]; rw [if_neg (by omega)]) xs.length k 0 (by omega) (by omega) (by omega)
  · rw [if_pos (by omega), if_neg h2]



theorem ahead_iff (x y : S68) : aheadB x y = true ↔ (x.f0 < y.f0 ∨ (x.f0 = y.f0 ∧ x.f1 < y.f1)) := by
  unfold aheadB
  simp
theorem binds_rise {xs : List S68} (h : bindsF xs = 0) : xs.length ≤ 24 ∧ ∀ (i j : Nat) (hi : i < j) (hj : j < xs.length), aheadB xs[i] xs[j] = true := by
  unfold bindsF at h
  split at h
  · rename_i hl
    refine ⟨hl, ?_⟩
    have hz := codeFrom_zero (bindC xs) xs.length 0 h
    have step : ∀ (j : Nat) (h0 : 0 < j) (hj : j < xs.length), aheadB (xs[j - 1]'(by omega)) xs[j] = true := by
      intro j h0 hj
      have h1 := hz j (by omega) (by omega)
      unfold bindC at h1
      have e : (j : Int) - 1 = ((j - 1 : Nat) : Int) := by omega
      rw [e, rdBind hj, rdBind (show j - 1 < xs.length by omega)] at h1
      split at h1
      · split at h1
        · rename_i g1 g2
          by_cases g : aheadB (xs[j - 1]'(by omega)) xs[j] = true
          · exact g
          · rw [if_pos ⟨by omega, g⟩] at h1
            omega
        · omega
      · omega
    intro i j hi hj
    obtain ⟨d, rfl⟩ : ∃ d, j = i + 1 + d := ⟨j - i - 1, by omega⟩
    induction d with
    | zero =>
      have := step (i + 1) (by omega) hj
      simpa using this
    | succ d ih =>
      have h3 := ih (by omega) (by omega)
      have h4 := step (i + 1 + (d + 1)) (by omega) hj
      have e : i + 1 + (d + 1) - 1 = i + 1 + d := by omega
      simp only [e] at h4
      rw [ahead_iff] at h3 h4 ⊢
      omega
  · omega
theorem cmpB_zero (x y : S68) : cmpB x y = 0 ↔ (x.f0 = y.f0 ∧ x.f1 = y.f1) := by
  unfold cmpB cmpI
  by_cases h1 : x.f0 < y.f0
  · rw [if_pos h1]
    simp
    omega
  · by_cases h2 : x.f0 > y.f0
    · rw [if_neg h1, if_pos h2]
      simp
      omega
    · have h3 : x.f0 = y.f0 := by omega
      rw [if_neg h1, if_neg h2, if_pos rfl]
      by_cases h4 : x.f1 < y.f1
      · rw [if_pos h4]
        simp
        omega
      · by_cases h5 : x.f1 > y.f1
        · rw [if_neg h4, if_pos h5]
          simp
          omega
        · rw [if_neg h4, if_neg h5]
          simp
          omega
theorem cmpB_neg (x y : S68) : cmpB x y < 0 ↔ (x.f0 < y.f0 ∨ (x.f0 = y.f0 ∧ x.f1 < y.f1)) := by
  have h := cmpB_ahead x y
  rw [← ahead_iff, ← h]
  simp
def isB (a m : Int) (q : S68) : Bool := decide (q.f0 = a ∧ q.f1 = m)
/-- Where a bind's place is, or would be. -/
theorem search_eq {k : Nat} {xs : List S68} (h : bindsF xs = 0) (a m : Int) (hk : 100 ≤ k) :
    ∃ p : Nat, (impl_Bind.f k xs a m 0 0 = some ((p : Int), decide (∃ h : p < xs.length, isB a m xs[p] = true))) ∧ (∀ (hp : p < xs.length), isB a m xs[p] = true → xs.find? (isB a m) = some xs[p]) ∧ (¬ (∃ hp : p < xs.length, isB a m xs[p] = true) → xs.find? (isB a m) = none) := by
  obtain ⟨hl, hr⟩ := binds_rise h
  obtain ⟨p, h1, h2, h3, h4⟩ := bs_loop (fun k i j => impl_Bind.l0 k xs (xs.length : Int) i j a m 0 0) (fun i => cmpB (rd_T68 xs i) ⟨a, m, ⟨0, 0⟩⟩) xs.length 10
    (fun k i j hk h0 hij hj => by
      have e := fun x => impl_Bind_compare_eq (k := k) (by omega) x ⟨a, m, ⟨0, 0⟩⟩
      simp only [impl_Bind.l0, e, Option.bind_some]
      rw [if_pos hij, mid_eq h0 (by omega) (by omega), if_pos (by omega), if_pos (by omega), w64 (x := (i + j) / 2 + 1) (by omega)])
    (fun k i hk h0 hi => by
      have e := fun x => impl_Bind_compare_eq (k := k) (by omega) x ⟨a, m, ⟨0, 0⟩⟩
      simp only [impl_Bind.l0, e, Option.bind_some]
      rw [if_neg (by omega)]
      by_cases g : i < (xs.length : Int)
      · simp only [g, h0, if_true]
      · simp only [g, if_false])
    (fun i j h0 hij hj hlt => by
      obtain ⟨i, rfl⟩ := Int.eq_ofNat_of_zero_le h0
      obtain ⟨j, rfl⟩ := Int.eq_ofNat_of_zero_le (show 0 ≤ j by omega)
      rw [rdBind (show j < xs.length by omega)] at hlt
      rw [rdBind (show i < xs.length by omega)]
      by_cases e : i = j
      · subst e; exact hlt
      · have := hr i j (by omega) (by omega)
        rw [ahead_iff] at this
        rw [cmpB_neg] at hlt ⊢
        dsimp only at hlt ⊢
        omega)
    xs.length k 0 (xs.length : Int) (by omega) (by omega) (by omega) (by omega) (fun m h1 h2 => by omega) (fun m h1 h2 => by omega) (by omega)
  have hz : ∀ (i : Nat) (hi : i < xs.length), cmpB (rd_T68 xs (i : Int)) ⟨a, m, ⟨0, 0⟩⟩ = 0 ↔ isB a m xs[i] = true := by
    intro i hi
    rw [rdBind hi, cmpB_zero]
    unfold isB
    simp
  have hn : ∀ (i : Nat) (hi : i < xs.length), cmpB (rd_T68 xs (i : Int)) ⟨a, m, ⟨0, 0⟩⟩ < 0 → ¬ isB a m xs[i] = true := by
    intro i hi hc he
    have := (hz i hi).2 he
    omega
  refine ⟨p, ?_, fun hp e => ?_, fun hne => ?_⟩
  · unfold impl_Bind.f
    rw [h1]
    congr 2
    refine decide_eq_decide.2 ?_
    constructor
    · rintro ⟨g1, g2⟩
      exact ⟨g1, (hz p g1).1 g2⟩
    · rintro ⟨g1, g2⟩
      exact ⟨g1, (hz p g1).2 g2⟩
  · rw [List.find?_eq_some_iff_getElem]
    refine ⟨e, p, hp, rfl, fun j hj => ?_⟩
    have := hn j (by omega) (h3 j hj)
    simpa using this
  · rw [List.find?_eq_none]
    intro q hq
    obtain ⟨i, hi, rfl⟩ := List.mem_iff_getElem.1 hq
    intro e
    rcases Nat.lt_or_ge i p with g | g
    · exact hn i hi (h3 i g) e
    · by_cases e2 : i = p
      · subst e2
        exact hne ⟨hi, e⟩
      · have g3 := hr p i (by omega) hi
        have g4 := h4 p (Nat.le_refl _) (by omega)
        have g5 := (hz i hi).2 e
        rw [rdBind hi, cmpB_zero] at g5
        rw [rdBind (show p < xs.length by omega), cmpB_neg] at g4
        rw [ahead_iff] at g3
        dsimp only at g4 g5
        omega
/-- What the reference's one pass answers. -/
def ofL (a b : Int) : List S68 → Int × Int → Int × Int
  | [], s => s
  | q :: r, s => if q.f0 = a then (if q.f1 = b then (q.f2.f0, q.f2.f1) else if q.f1 = 0 then ofL a b r (q.f2.f0, q.f2.f1) else ofL a b r s) else ofL a b r s
theorem spec_l8Of_loop {xs : List S68} (hl : xs.length ≤ 24) (a m : Int) : ∀ (d k i : Nat) (s t : Int), xs.length - i = d → i ≤ xs.length → d < k → spec_l8Of.l0 k xs a m (i : Int) s t = some (ofL a m (xs.drop i) (s, t)) := by
  intro d
  induction d with
  | zero =>
    intro k i s t hd hi hk
    obtain ⟨k, rfl⟩ : ∃ m, k = m + 1 := ⟨k - 1, by omega⟩
    simp only [spec_l8Of.l0]
    rw [if_neg (by omega), List.drop_eq_nil_of_le (by omega)]
    rfl
  | succ d ih =>
    intro k i s t hd hi hk
    obtain ⟨k, rfl⟩ : ∃ m, k = m + 1 := ⟨k - 1, by omega⟩
    have hx : i < xs.length := by omega
    simp only [spec_l8Of.l0]
    rw [if_pos (by omega), if_pos (by omega), rdBind hx, w64n (by omega), ih k (i + 1) _ _ (by omega) (by omega) (by omega), ih k (i + 1) _ _ (by omega) (by omega) (by omega), List.drop_eq_getElem_cons hx]
    conv => rhs; rw [ofL]
    split
    · split
      · rfl
      · split <;> rfl
    · rfl
def symB (q : S68) : Int × Int := (q.f2.f0, q.f2.f1)
theorem ofL_find (a m : Int) : ∀ (xs : List S68) (s : Int × Int), xs.Pairwise (fun x y => aheadB x y = true) → ofL a m xs s = (match xs.find? (isB a m) with | some q => symB q | none => (match xs.find? (isB a 0) with | some q => symB q | none => s))
  | [], s, _ => rfl
  | q :: r, s, hp => by
    obtain ⟨h1, h2⟩ := List.pairwise_cons.1 hp
    rw [ofL]
    by_cases e1 : q.f0 = a
    · rw [if_pos e1]
      by_cases e2 : q.f1 = m
      · rw [if_pos e2]
        have : isB a m q = true := by simp [isB, e1, e2]
        rw [List.find?_cons_of_pos this]
        rfl
      · rw [if_neg e2]
        have n1 : ¬ isB a m q = true := by simp [isB, e1, e2]
        rw [List.find?_cons_of_neg n1]
        by_cases e3 : q.f1 = 0
        · rw [if_pos e3, ofL_find a m r _ h2]
          have p0 : isB a 0 q = true := by simp [isB, e1, e3]
          have n0 : r.find? (isB a 0) = none := by
            rw [List.find?_eq_none]
            intro y hy e
            have := h1 y hy
            rw [ahead_iff] at this
            simp [isB] at e
            omega
          rw [List.find?_cons_of_pos p0, n0]
          rfl
        · rw [if_neg e3, ofL_find a m r _ h2]
          have n0 : ¬ isB a 0 q = true := by simp [isB, e1, e3]
          rw [List.find?_cons_of_neg n0]
    · rw [if_neg e1, ofL_find a m r _ h2]
      have n1 : ¬ isB a m q = true := by simp [isB, e1]
      have n0 : ¬ isB a 0 q = true := by simp [isB, e1]
      rw [List.find?_cons_of_neg n1, List.find?_cons_of_neg n0]
theorem symOf_same {k : Nat} {xs : List S68} (h : bindsF xs = 0) (a m : Int) (hk : 200 ≤ k) : ∃ s : Int × Int, spec_l8Of.f k xs a m = some s ∧ impl_symOf.f k xs a m = some s := by
  obtain ⟨hl, hr⟩ := binds_rise h
  have hpw : xs.Pairwise (fun x y => aheadB x y = true) := by
    rw [List.pairwise_iff_getElem]
    intro i j hi hj hij
    exact hr i j hij hj
  refine ⟨ofL a m xs (0, 0), ?_, ?_⟩
  · have := spec_l8Of_loop hl a m xs.length k 0 0 0 (by omega) (Nat.zero_le _) (by omega)
    rw [List.drop_zero] at this
    exact this
  · rw [ofL_find a m xs _ hpw]
    obtain ⟨k, rfl⟩ : ∃ m, k = m + 3 := ⟨k - 3, by omega⟩
    have w0 : wrap64 1 = 1 := by unfold wrap64; omega
    have w1 : wrap64 2 = 2 := by unfold wrap64; omega
    obtain ⟨p, p1, p2, p3⟩ := search_eq (k := k + 2) h a m (by omega)
    obtain ⟨q, q1, q2, q3⟩ := search_eq (k := k + 1) h a 0 (by omega)
    have r0 : rd [m, 0] 0 = m := rfl
    have r1 : rd [m, 0] 1 = 0 := rfl
    simp only [impl_symOf.f, impl_symOf.l0, Option.bind_some, List.length_cons, List.length_nil, r0]
    rw [if_pos (by omega), if_pos (by omega), if_pos (by omega), p1]
    simp only [Option.bind_some, decide_eq_true_eq]
    by_cases g : ∃ hp : p < xs.length, isB a m xs[p] = true
    · rw [if_pos g]
      obtain ⟨hp, g⟩ := g
      rw [if_pos (by omega), if_pos (by omega), rdBind hp, p2 hp g]
      rfl
    · rw [if_neg g, p3 g]
      simp only [Int.zero_add, w0, r1]
      rw [if_pos (by omega), if_pos (by omega), if_pos (by omega), q1]
      simp only [Option.bind_some, decide_eq_true_eq]
      by_cases g : ∃ hp : q < xs.length, isB a 0 xs[q] = true
      · rw [if_pos g]
        obtain ⟨hp, g⟩ := g
        rw [if_pos (by omega), if_pos (by omega), rdBind hp, q2 hp g]
        rfl
      · rw [if_neg g, q3 g]
        have w2 : wrap64 (1 + 1) = 2 := by unfold wrap64; omega
        simp only [w2]
        rw [if_neg (by omega)]


theorem laws_eqSymResult_self (a b e : Int) : laws_eqSymResult.f a b e a b e = some true := by
  unfold laws_eqSymResult.f laws_eqSym.f
  simp

theorem FnExactSymOf : ∀ (x0 : List (S63)) (x1 : Int) (x2 : Int), (x0.length ≤ maxLen ∧ x0.length * 32 ≤ 140737488351232 ∧ ∀ y ∈ x0, ((Lit.int .i64 y.f0).wf = true) ∧ ((Lit.int .i64 y.f1).wf = true) ∧ (((Lit.int .i64 y.f2.f0).wf = true) ∧ ((Lit.int .i64 y.f2.f1).wf = true))) → ((Lit.int .i64 x1).wf = true) → ((Lit.int .i64 x2).wf = true) → ∃ k, laws_FnExactSymOf.f k x0 x1 x2 = some true := by
  intro xs a m hx _ _
  obtain ⟨hm, hb, hw⟩ := hx
  refine ⟨xs.length + 300, ?_⟩
  generalize hK : xs.length + 300 = K
  unfold laws_FnExactSymOf.f
  rw [laws_szBindS_eq (by omega) (by omega) (by omega)]
  simp only [Option.bind_some]
  by_cases h : (1048576 : Int) - (xs.length : Int) < 0
  · simp [h]
  rw [if_neg h, if_neg h, laws_toBindS_eq (by omega) (by omega)]
  simp only [Option.bind_some]
  obtain ⟨s, h1, h2⟩ : ∃ s : Int × Int × Int, spec_SymOf.f K (xs.map toBind) a m = some s ∧ impl_SymOf.f K (xs.map toBind) a m = some s := by
    unfold spec_SymOf.f impl_SymOf.f
    rw [spec_l8Fault_eq _ (by omega), impl_BindsFault_eq _ (by omega)]
    simp only [Option.bind_some, spec_l8Key_eq, impl_isKey.f, impl_in_eq, impl_unless_eq, impl_first2 (show 3 ≤ K by omega)]
    by_cases hf : bindsF (xs.map toBind) = 0
    · obtain ⟨s, s1, s2⟩ := symOf_same hf a m (k := K) (by omega)
      unfold keyB
      by_cases g1 : 1 ≤ a ∧ a ≤ 40 <;> by_cases g2 : 0 ≤ m ∧ m ≤ 7 <;> simp [hf, g1, g2, s1, s2]
    · by_cases g1 : 1 ≤ a ∧ a ≤ 40 <;> simp [hf, g1]
  rw [h1, h2]
  simp only [Option.bind_some]
  rw [laws_eqSymResult_self, laws_eqBindS_eq (by rw [List.length_map]; omega) (by rw [List.length_map]; omega)]
  simp

end Go.Proofs.Yticblminpeodjaa.Pure
