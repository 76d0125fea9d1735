/- PutBind: for every list of binds and every bind the program's answer is the reference's; the binds stay as they were, and the answer is the caller's own. No condition. -/
import Derived.Test.YtpoafgokngpglaaPFnExactPutBindx
import Derived.Test.YtpoafgokngpglaaQbPlain
namespace Go.Proofs.Ytpoafgokngpglaa.Pure
open Go Go.RowKit Go.Proofs.Ytpoafgokngpglaa.PFnExactPutBind Go.Proofs.YtpoafgokngpglaaW.PrintWords Go.Proofs.YtpoafgokngpglaaW.PrintLast Go.Proofs.YtpoafgokngpglaaPlain
set_option linter.unusedVariables false
set_option linter.unusedSimpArgs false

instance : DecidableEq S53 := fun a b => match a, b with
  | ⟨a0, a1⟩, ⟨b0, b1⟩ => decidable_of_iff (a0 = b0 ∧ a1 = b1) (by simp)
instance : DecidableEq S55 := fun a b => match a, b with
  | ⟨a0, a1, a2⟩, ⟨b0, b1, b2⟩ => decidable_of_iff (a0 = b0 ∧ a1 = b1 ∧ a2 = b2) (by simp)
instance : DecidableEq S62 := fun a b => match a, b with
  | ⟨a0, a1⟩, ⟨b0, b1⟩ => decidable_of_iff (a0 = b0 ∧ a1 = b1) (by simp)
instance : DecidableEq S64 := fun a b => match a, b with
  | ⟨a0, a1, a2⟩, ⟨b0, b1, b2⟩ => decidable_of_iff (a0 = b0 ∧ a1 = b1 ∧ a2 = b2) (by simp)

theorem spec_l1In_eq (x a b : Int) : spec_l1In.f x a b = some (decide (a ≤ x ∧ x ≤ b)) := by
  unfold spec_l1In.f
  split <;> (congr 1; simp_all) <;> omega

theorem impl_in_eq (x a b : Int) : impl_in.f x a b = some (decide (a ≤ x ∧ x ≤ b)) := by
  unfold impl_in.f
  split <;> (congr 1; simp_all) <;> omega

theorem spec_l1Char_eq (x : Int) : spec_l1Char.f x = some (isCh x) := by
  unfold spec_l1Char.f isCh
  simp only [spec_l1In_eq, Option.bind_some]
  by_cases h : 0 ≤ x ∧ x ≤ 55295
  · simp [h]
  · rw [if_neg (by simpa using h)]
    congr 1
    simp only [h, false_or]

theorem impl_isChar_eq (x : Int) : impl_isChar.f x = some (isCh x) := by
  unfold impl_isChar.f isCh
  simp only [impl_in_eq, Option.bind_some]
  by_cases h : 0 ≤ x ∧ x ≤ 65535
  · rw [if_pos (by simpa using h), ← decide_not]
    congr 1
    refine decide_eq_decide.2 ?_
    omega
  · rw [if_neg (by simpa using h)]
    congr 1
    symm
    rw [decide_eq_false_iff_not]
    omega

theorem impl_isBit_eq (x : Int) : impl_isBit.f x = some (decide (x = 1 ∨ x = 2 ∨ x = 4)) := by
  unfold impl_isBit.f
  by_cases h1 : x = 1 <;> by_cases h2 : x = 2 <;> simp [h1, h2] <;> rfl
/-- Has a sym the value of its kind? -/
def symV (a b : Int) : Bool := if a = 1 then isCh b else if a = 2 then decide (0 ≤ b ∧ b ≤ 3) else if a = 3 then decide (b = 1 ∨ b = 2 ∨ b = 4) else if a = 5 then decide (1 ≤ b ∧ b ≤ 3) else if a = 6 then decide (0 ≤ b ∧ b ≤ 2) else decide (b = 0)
/-- What is wrong with a sym. -/
def symF (a b : Int) : Int := if 0 ≤ a ∧ a ≤ 6 then (if symV a b = true then 0 else 3) else 1
theorem spec_l8Value_eq (a b : Int) : spec_l8Value.f a b = some (symV a b) := by
  unfold spec_l8Value.f symV
  simp only [spec_l1In_eq, spec_l1Char_eq, Option.bind_some]
  by_cases h1 : a = 1
  · simp [h1]
  by_cases h2 : a = 2
  · simp [h2]
  by_cases h3 : a = 3
  · subst h3
    by_cases g1 : b = 1 <;> by_cases g2 : b = 2 <;> simp [g1, g2] <;> rfl
  by_cases h4 : a = 5
  · simp [h4]
  by_cases h5 : a = 6
  · simp [h5]
  simp [h1, h2, h3, h4, h5]
  rfl
theorem spec_l8Sym_eq (a b : Int) : spec_l8Sym.f a b = some (symF a b) := by
  unfold spec_l8Sym.f symF
  simp only [spec_l1In_eq, spec_l8Value_eq, Option.bind_some]
  by_cases h : 0 ≤ a ∧ a ≤ 6
  · simp only [h, and_self, decide_true, if_true]
    split <;> simp_all
  · simp only [h, decide_false, Bool.false_eq_true, if_false]
theorem impl_SymFault_eq {k : Nat} (hk : 1 ≤ k) (a b : Int) : impl_SymFault.f k a b = some (symF a b) := by
  obtain ⟨k, rfl⟩ : ∃ m, k = m + 1 := ⟨k - 1, by omega⟩
  unfold impl_SymFault.f symF
  simp only [impl_SymFault.j0, impl_in_eq, impl_isChar_eq, impl_isBit_eq, impl_unless.f, Option.bind_some]
  by_cases h0 : a = 0
  · subst h0
    by_cases g : b = 0 <;> simp [symV, g]
  by_cases h1 : a = 1
  · subst h1
    cases g : isCh b <;> simp [symV, g]
  by_cases h2 : a = 2
  · subst h2
    by_cases g : 0 ≤ b ∧ b ≤ 3 <;> simp [symV, g]
  by_cases h3 : a = 3
  · subst h3
    by_cases g : b = 1 ∨ b = 2 ∨ b = 4 <;> simp [symV, g]
  by_cases h4 : a = 4
  · subst h4
    by_cases g : b = 0 <;> simp [symV, g]
  by_cases h5 : a = 5
  · subst h5
    by_cases g : 1 ≤ b ∧ b ≤ 3 <;> simp [symV, g]
  by_cases h6 : a = 6
  · subst h6
    by_cases g : 0 ≤ b ∧ b ≤ 2 <;> simp [symV, g]
  have h : ¬ (0 ≤ a ∧ a ≤ 6) := by omega
  simp [h0, h1, h2, h3, h4, h5, h6, h]

theorem impl_first2 {k : Nat} (hk : 3 ≤ k) (a b : Int) : impl_first.f k [a, b] = some (if a = 0 then b else a) := by
  obtain ⟨k, rfl⟩ : ∃ m, k = m + 3 := ⟨k - 3, by omega⟩
  have w0 : wrap64 1 = 1 := by unfold wrap64; omega
  have w1 : wrap64 2 = 2 := by unfold wrap64; omega
  by_cases h1 : a = 0
  · by_cases h2 : b = 0
    · simp [impl_first.f, impl_first.l0, rd, w0, w1, h1, h2]
    · simp [impl_first.f, impl_first.l0, rd, w0, w1, h1, h2]
  · simp [impl_first.f, impl_first.l0, rd, w0, w1, h1]

theorem impl_unless_eq (b : Bool) (x : Int) : impl_unless.f b x = some (if b = true then 0 else x) := by
  unfold impl_unless.f
  split <;> rfl

theorem laws_szBindS_eq {xs} {n : Int} (h : (List.length xs : Int) ≤ 8796093022208) (hn : n ≤ 1048576) (h0 : -1 ≤ n) : laws_szBindS.f xs n = some (if n - (List.length xs : Int) < 0 then -1 else n - (List.length xs : Int)) := by
  unfold laws_szBindS.f
  rw [w64 (by omega)]
  split <;> rfl


def toBind (x : S55) : S64 := ⟨x.f0, x.f1, ⟨x.f2.f0, x.f2.f1⟩⟩
theorem rdBinda {xs : List S55} {i : Nat} (h : i < xs.length) : rd_T55 xs (i : Int) = xs[i] := rdOf_nat h
theorem rdBind {xs : List S64} {i : Nat} (h : i < xs.length) : rd_T64 xs (i : Int) = xs[i] := rdOf_nat h
theorem laws_toBindS_eq {k : Nat} {xs : List S55} (hb : xs.length ≤ 8796093022208) (hk : xs.length < k) : laws_toBindS.f k xs = some (xs.map toBind) := by
  unfold laws_toBindS.f
  rw [if_pos (by omega), if_pos (by omega)]
  exact copy_loop laws_toBindS.l0 toBind rd_T55 (fun a c => c (toBind a)) (fun xs i h => rdBinda h) (fun k xs ys i => by
    simp only [laws_toBindS.l0, laws_toBind.f, laws_toSym.f, Option.bind_some]
    rfl) (fun a c => rfl) (xs := xs) (by omega) _ k 0 (List.replicate ((xs.length : Int)).toNat z64) (by simp) rfl (Nat.zero_le _) hk (by simp)
theorem laws_eqBind_eq (a b : S64) : laws_eqBind.f a.f0 a.f1 a.f2.f0 a.f2.f1 b.f0 b.f1 b.f2.f0 b.f2.f1 = some (decide (a = b)) := by
  unfold laws_eqBind.f laws_eqSym.f
  obtain ⟨a0, a1, a2, a3⟩ := a
  obtain ⟨b0, b1, b2, b3⟩ := b
  by_cases h1 : a0 = b0 <;> by_cases h2 : a1 = b1 <;> by_cases h3 : a2 = b2 <;> by_cases h4 : a3 = b3 <;> simp [h1, h2, h3, h4]
theorem laws_eqBindS_eq {k : Nat} {xs ys : List S64} (hb : xs.length ≤ 4611686018427387904) (hk : xs.length < k) : laws_eqBindS.f k xs ys = some (decide (xs = ys)) :=
  eq_fun (fun hl => eq_loop laws_eqBindS.l0 rd_T64 (fun a b c => if a = b then c else some false) (fun xs i h => rdBind h) (fun k xs ys i => by simp only [laws_eqBindS.l0, laws_eqBind_eq, Option.bind_some, decide_eq_true_eq]) (fun a b c => rfl) hl hb _ k 0 rfl (Nat.zero_le _) (by omega))



def keyB (a b : Int) : Bool := decide (1 ≤ a ∧ a ≤ 40) && decide (0 ≤ b ∧ b ≤ 7)
def aheadB (x y : S64) : Bool := decide (x.f0 < y.f0 ∨ (x.f0 = y.f0 ∧ x.f1 < y.f1))
theorem spec_l8Key_eq (a b : Int) : spec_l8Key.f a b = some (keyB a b) := by
  unfold spec_l8Key.f keyB
  simp only [spec_l1In_eq, Option.bind_some]
  by_cases h : 1 ≤ a ∧ a ≤ 40 <;> simp [h]
theorem spec_l8Ahead_eq (x y : S64) : spec_l8Ahead.f x.f0 x.f1 x.f2.f0 x.f2.f1 y.f0 y.f1 y.f2.f0 y.f2.f1 = some (aheadB x y) := by
  unfold spec_l8Ahead.f aheadB
  by_cases h1 : x.f0 < y.f0
  · simp [h1]
  · by_cases h2 : x.f0 = y.f0 <;> simp [h1, h2]
/-- What is wrong with the i-th bind. -/
def bindC (xs : List S64) (i : Int) : Int := if keyB (rd_T64 xs i).f0 (rd_T64 xs i).f1 = true then (if symF (rd_T64 xs i).f2.f0 (rd_T64 xs i).f2.f1 = 0 then (if 0 < i ∧ ¬ aheadB (rd_T64 xs (i - 1)) (rd_T64 xs i) = true then 1 else 0) else symF (rd_T64 xs i).f2.f0 (rd_T64 xs i).f2.f1) else 3
def bindsF (xs : List S64) : Int := if xs.length ≤ 24 then codeFrom (bindC xs) xs.length 0 else 2
theorem spec_l8Fault_eq {k : Nat} (xs : List S64) (hk : 60 ≤ k) : spec_l8Fault.f k xs = some (bindsF xs) := by
  unfold spec_l8Fault.f bindsF
  by_cases h2 : xs.length ≤ 24
  · rw [if_neg (by omega), if_pos h2]
    exact code_loop (fun k i => spec_l8Fault.l0 k xs i) (bindC xs) xs.length 0 (fun k i hk h0 hi => by
        have e1 : wrap64 (i - 1) = i - 1 := w64 (by omega)
        have e2 : wrap64 (i + 1) = i + 1 := w64 (by omega)
        have e3 : i - 1 < (xs.length : Int) := by omega
        simp only [spec_l8Fault.l0, spec_l8Key_eq, spec_l8Sym_eq, spec_l8Ahead_eq, Option.bind_some, if_pos h0, if_pos hi, e1, e2, if_pos e3]
        unfold bindC
        by_cases g1 : keyB (rd_T64 xs i).f0 (rd_T64 xs i).f1 = true
        · by_cases g2 : symF (rd_T64 xs i).f2.f0 (rd_T64 xs i).f2.f1 = 0
          · by_cases g3 : 0 < i
            · have e4 : 0 ≤ i - 1 := by omega
              have e5 : 1 ≤ i := by omega
              by_cases g4 : aheadB (rd_T64 xs (i - 1)) (rd_T64 xs i) = true <;> simp [g1, g2, g3, g4, e4, e5]
            · simp [g1, g2, g3]
          · simp [g1, g2]
        · simp [g1]) (fun k hk => by simp only [spec_l8Fault.l0]; rw [if_neg (by omega)]) xs.length k 0 (by omega) (by omega) (by omega)
  · rw [if_pos (by omega), if_neg h2]
theorem symF_code (a b : Int) : symF a b = 0 ∨ symF a b = 1 ∨ symF a b = 3 := by
  unfold symF
  split
  · split <;> simp
  · simp
theorem impl_Bind_code_eq {k : Nat} (hk : 4 ≤ k) (x : S64) : impl_Bind_code.f k x.f0 x.f1 x.f2.f0 x.f2.f1 = some (if keyB x.f0 x.f1 = true then symF x.f2.f0 x.f2.f1 else 3) := by
  unfold impl_Bind_code.f impl_isKey.f keyB
  simp only [impl_in_eq, impl_unless_eq, Option.bind_some, impl_SymFault_eq (show 1 ≤ k by omega), impl_first2 (show 3 ≤ k by omega)]
  by_cases h1 : 1 ≤ x.f0 ∧ x.f0 ≤ 40 <;> by_cases h2 : 0 ≤ x.f1 ∧ x.f1 ≤ 7 <;> simp [h1, h2]
theorem cmp_Or2 {k : Nat} (hk : 3 ≤ k) (a b : Int) : cmp_Or_int.f k [a, b] = some (if a = 0 then b else a) := by
  obtain ⟨k, rfl⟩ : ∃ m, k = m + 3 := ⟨k - 3, by omega⟩
  have w0 : wrap64 1 = 1 := by unfold wrap64; omega
  have w1 : wrap64 2 = 2 := by unfold wrap64; omega
  by_cases h1 : a = 0
  · by_cases h2 : b = 0
    · simp [cmp_Or_int.f, cmp_Or_int.l0, rd, w0, w1, h1, h2]
    · simp [cmp_Or_int.f, cmp_Or_int.l0, rd, w0, w1, h1, h2]
  · simp [cmp_Or_int.f, cmp_Or_int.l0, rd, w0, w1, h1]
def cmpI (a b : Int) : Int := if a < b then -1 else if a > b then 1 else 0
theorem cmp_Compare_eq (a b : Int) : cmp_Compare_int64.f a b = some (cmpI a b) := by
  unfold cmp_Compare_int64.f cmp_isNaN_int64.f cmpI
  simp
  split
  · rfl
  · split <;> rfl
def cmpB (x y : S64) : Int := if cmpI x.f0 y.f0 = 0 then cmpI x.f1 y.f1 else cmpI x.f0 y.f0
theorem impl_Bind_compare_eq {k : Nat} (hk : 3 ≤ k) (x y : S64) : impl_Bind_compare.f k x.f0 x.f1 x.f2.f0 x.f2.f1 y.f0 y.f1 y.f2.f0 y.f2.f1 = some (cmpB x y) := by
  unfold impl_Bind_compare.f
  simp only [cmp_Compare_eq, Option.bind_some, cmp_Or2 hk]
  rfl
theorem cmpB_ahead (x y : S64) : decide (cmpB x y < 0) = aheadB x y := by
  unfold cmpB cmpI aheadB
  refine decide_eq_decide.2 ?_
  by_cases h1 : x.f0 < y.f0
  · simp [h1]
  · by_cases h2 : x.f0 > y.f0
    · have h3 : ¬ x.f0 = y.f0 := by omega
      simp [h1, h2, h3]
    · have h3 : x.f0 = y.f0 := by omega
      by_cases h4 : x.f1 < y.f1
      · simp [h1, h2, h3, h4]
      · by_cases h5 : x.f1 > y.f1 <;> simp [h1, h2, h3, h4, h5]
theorem impl_BindsFault_eq {k : Nat} (xs : List S64) (hk : 60 ≤ k) : impl_BindsFault.f k xs = some (bindsF xs) := by
  unfold impl_BindsFault.f bindsF
  by_cases h2 : xs.length ≤ 24
  · rw [if_neg (by omega), if_pos h2]
    exact code_loop (fun k i => impl_BindsFault.l0 k xs xs (xs.length : Int) i) (bindC xs) xs.length 10 (fun k i hk h0 hi => by
        have e1 : wrap64 (i - 1) = i - 1 := w64 (by omega)
        have e2 : wrap64 (i + 1) = i + 1 := w64 (by omega)
        have e3 : i - 1 < (xs.length : Int) := by omega
        simp only [impl_BindsFault.l0, impl_Bind_code_eq (show 4 ≤ k by omega), impl_Bind_compare_eq (show 3 ≤ k by omega), cmpB_ahead, impl_unless_eq, impl_first2 (show 3 ≤ k by omega), Option.bind_some, if_pos h0, if_pos hi, e1, e2, if_pos e3]
        unfold bindC
        by_cases g2 : i = 0
        · subst g2
          by_cases g1 : keyB (rd_T64 xs 0).f0 (rd_T64 xs 0).f1 = true
          · rcases symF_code (rd_T64 xs 0).f2.f0 (rd_T64 xs 0).f2.f1 with g | g | g <;> simp [g1, g]
          · simp [g1]
        · have e4 : 0 ≤ i - 1 := by omega
          have e5 : 1 ≤ i := by omega
          have e6 : 0 < i := by omega
          by_cases g1 : keyB (rd_T64 xs i).f0 (rd_T64 xs i).f1 = true
          · by_cases g4 : aheadB (rd_T64 xs (i - 1)) (rd_T64 xs i) = true <;> rcases symF_code (rd_T64 xs i).f2.f0 (rd_T64 xs i).f2.f1 with g | g | g <;> simp [g1, g2, g4, g, e4, e5, e6]
          · simp [g1, g2, e4, e5]) (fun k hk => by simp only [impl_BindsFault.l0]; rw [if_neg (by omega)]) xs.length k 0 (by omega) (by omega) (by omega)
  · rw [if_pos (by omega), if_neg h2]



theorem ahead_iff (x y : S64) : aheadB x y = true ↔ (x.f0 < y.f0 ∨ (x.f0 = y.f0 ∧ x.f1 < y.f1)) := by
  unfold aheadB
  simp
theorem binds_rise {xs : List S64} (h : bindsF xs = 0) : xs.length ≤ 24 ∧ ∀ (i j : Nat) (hi : i < j) (hj : j < xs.length), aheadB xs[i] xs[j] = true := by
  unfold bindsF at h
  split at h
  · rename_i hl
    refine ⟨hl, ?_⟩
    have hz := codeFrom_zero (bindC xs) xs.length 0 h
    have step : ∀ (j : Nat) (h0 : 0 < j) (hj : j < xs.length), aheadB (xs[j - 1]'(by omega)) xs[j] = true := by
      intro j h0 hj
      have h1 := hz j (by omega) (by omega)
      unfold bindC at h1
      have e : (j : Int) - 1 = ((j - 1 : Nat) : Int) := by omega
      rw [e, rdBind hj, rdBind (show j - 1 < xs.length by omega)] at h1
      split at h1
      · split at h1
        · rename_i g1 g2
          by_cases g : aheadB (xs[j - 1]'(by omega)) xs[j] = true
          · exact g
          · rw [if_pos ⟨by omega, g⟩] at h1
            omega
        · omega
      · omega
    intro i j hi hj
    obtain ⟨d, rfl⟩ : ∃ d, j = i + 1 + d := ⟨j - i - 1, by omega⟩
    induction d with
    | zero =>
      have := step (i + 1) (by omega) hj
      simpa using this
    | succ d ih =>
      have h3 := ih (by omega) (by omega)
      have h4 := step (i + 1 + (d + 1)) (by omega) hj
      have e : i + 1 + (d + 1) - 1 = i + 1 + d := by omega
      simp only [e] at h4
      rw [ahead_iff] at h3 h4 ⊢
      omega
  · omega
theorem cmpB_zero (x y : S64) : cmpB x y = 0 ↔ (x.f0 = y.f0 ∧ x.f1 = y.f1) := by
  unfold cmpB cmpI
  by_cases h1 : x.f0 < y.f0
  · rw [if_pos h1]
    simp
    omega
  · by_cases h2 : x.f0 > y.f0
    · rw [if_neg h1, if_pos h2]
      simp
      omega
    · have h3 : x.f0 = y.f0 := by omega
      rw [if_neg h1, if_neg h2, if_pos rfl]
      by_cases h4 : x.f1 < y.f1
      · rw [if_pos h4]
        simp
        omega
      · by_cases h5 : x.f1 > y.f1
        · rw [if_neg h4, if_pos h5]
          simp
          omega
        · rw [if_neg h4, if_neg h5]
          simp
          omega
theorem cmpB_neg (x y : S64) : cmpB x y < 0 ↔ (x.f0 < y.f0 ∨ (x.f0 = y.f0 ∧ x.f1 < y.f1)) := by
  have h := cmpB_ahead x y
  rw [← ahead_iff, ← h]
  simp
def isB (a m : Int) (q : S64) : Bool := decide (q.f0 = a ∧ q.f1 = m)



theorem search_at {k : Nat} {xs : List S64} (h : bindsF xs = 0) (y : S64) (hk : 100 ≤ k) :
    ∃ p : Nat, impl_Bind_70.f k xs y.f0 y.f1 y.f2.f0 y.f2.f1 = some ((p : Int), decide (∃ h : p < xs.length, cmpB xs[p] y = 0)) ∧ p ≤ xs.length ∧ (∀ (m : Nat) (hm : m < xs.length), m < p → aheadB xs[m] y = true) ∧ (∀ (m : Nat) (hm : m < xs.length), p ≤ m → aheadB xs[m] y = false) := by
  obtain ⟨hl, hr⟩ := binds_rise h
  obtain ⟨p, h1, h2, h3, h4⟩ := bs_loop (fun k i j => impl_Bind_70.l0 k xs (xs.length : Int) i j y.f0 y.f1 y.f2.f0 y.f2.f1) (fun i => cmpB (rd_T64 xs i) y) xs.length 10
    (fun k i j hk h0 hij hj => by
      have e := fun x => impl_Bind_compare_eq (k := k) (by omega) x y
      simp only [impl_Bind_70.l0, e, Option.bind_some]
      rw [if_pos hij, mid_eq h0 (by omega) (by omega), if_pos (by omega), if_pos (by omega), w64 (x := (i + j) / 2 + 1) (by omega)])
    (fun k i hk h0 hi => by
      have e := fun x => impl_Bind_compare_eq (k := k) (by omega) x y
      simp only [impl_Bind_70.l0, e, Option.bind_some]
      rw [if_neg (by omega)]
      by_cases g : i < (xs.length : Int)
      · simp only [g, h0, if_true]
      · simp only [g, if_false])
    (fun i j h0 hij hj hlt => by
      obtain ⟨i, rfl⟩ := Int.eq_ofNat_of_zero_le h0
      obtain ⟨j, rfl⟩ := Int.eq_ofNat_of_zero_le (show 0 ≤ j by omega)
      rw [rdBind (show j < xs.length by omega)] at hlt
      rw [rdBind (show i < xs.length by omega)]
      by_cases e : i = j
      · subst e; exact hlt
      · have := hr i j (by omega) (by omega)
        rw [ahead_iff] at this
        rw [cmpB_neg] at hlt ⊢
        omega)
    xs.length k 0 (xs.length : Int) (by omega) (by omega) (by omega) (by omega) (fun m h1 h2 => by omega) (fun m h1 h2 => by omega) (by omega)
  have ea : ∀ (i : Nat) (hi : i < xs.length), cmpB (rd_T64 xs (i : Int)) y = cmpB xs[i] y := fun i hi => by rw [rdBind hi]
  have hp : p ≤ xs.length := by omega
  refine ⟨p, ?_, hp, fun m hm hmp => ?_, fun m hm hmp => ?_⟩
  · unfold impl_Bind_70.f
    rw [h1]
    congr 2
    refine decide_eq_decide.2 ?_
    constructor
    · rintro ⟨g1, g2⟩
      exact ⟨g1, (ea p g1).symm.trans g2⟩
    · rintro ⟨g1, g2⟩
      exact ⟨g1, (ea p g1).trans g2⟩
  · have := h3 m hmp
    rw [ea m hm] at this
    rw [← cmpB_ahead]
    simpa using this
  · have := h4 m hmp hm
    rw [ea m hm] at this
    rw [← cmpB_ahead]
    simpa using this
/-- A bind put among rising ones, as the reference does it. -/
def putL (y : S64) : List S64 → Bool → List S64
  | [], done => if done = true then [] else [y]
  | q :: r, done => (if done = true then [] else if aheadB q y = true then [] else [y]) ++ ((if aheadB q y = true then [q] else if aheadB y q = true then [q] else []) ++ putL y r (done || !aheadB q y))
theorem put_go {xs : List S64} (hl : xs.length ≤ 24) (y : S64) : ∀ (d k i : Nat) (acc : List S64) (done : Bool), xs.length - i = d → i ≤ xs.length → 3 * d + 3 < k → acc.length ≤ 2 * i → spec_l8Put.l0 k xs acc done (i : Int) y.f0 y.f1 y.f2.f0 y.f2.f1 = some (acc ++ putL y (xs.drop i) done) := by
  intro d
  induction d with
  | zero =>
    intro k i acc done hd hi hk ha
    obtain ⟨k, rfl⟩ : ∃ m, k = m + 1 := ⟨k - 1, by omega⟩
    simp only [spec_l8Put.l0]
    rw [if_neg (by omega), List.drop_eq_nil_of_le (by omega)]
    cases done
    · rw [if_neg (by decide), if_pos (by omega)]
      rfl
    · rw [if_pos rfl]
      simp [putL]
  | succ d ih =>
    intro k i acc done hd hi hk ha
    obtain ⟨k, rfl⟩ : ∃ m, k = m + 3 := ⟨k - 3, by omega⟩
    have hx : i < xs.length := by omega
    have h2 : ∀ (acc' : List S64) (dn : Bool), acc'.length ≤ 2 * i + 1 → spec_l8Put.j2 (k + 1) xs acc' dn (i : Int) y.f0 y.f1 y.f2.f0 y.f2.f1 = some (acc' ++ ((if aheadB xs[i] y = true then [xs[i]] else if aheadB y xs[i] = true then [xs[i]] else []) ++ putL y (xs.drop (i + 1)) dn)) := by
      intro acc' dn ha'
      simp only [spec_l8Put.j2]
      rw [if_pos (by omega), if_pos (by omega), rdBind hx, spec_l8Ahead_eq, spec_l8Ahead_eq, w64n (by omega)]
      simp only [Option.bind_some]
      by_cases g1 : aheadB xs[i] y = true
      · rw [if_pos g1, if_pos g1, if_pos (by omega), ih k (i + 1) _ dn (by omega) (by omega) (by omega) (by simp; omega)]
        simp
      · rw [if_neg g1, if_neg g1]
        by_cases g2 : aheadB y xs[i] = true
        · rw [if_pos g2, if_pos g2, if_pos (by omega), ih k (i + 1) _ dn (by omega) (by omega) (by omega) (by simp; omega)]
          simp
        · rw [if_neg g2, if_neg g2, ih k (i + 1) _ dn (by omega) (by omega) (by omega) (by omega)]
          simp
    simp only [spec_l8Put.l0]
    rw [if_pos (by omega), List.drop_eq_getElem_cons hx, putL]
    cases done
    · simp only [Bool.false_eq_true, if_false]
      rw [if_pos (by omega), rdBind hx, spec_l8Ahead_eq]
      simp only [Option.bind_some, spec_l8Put.j1]
      by_cases g : aheadB xs[i] y = true
      · simp only [g, Bool.not_true, Bool.false_eq_true, if_false, if_true, Bool.or_false, List.nil_append]
        rw [h2 acc false (by omega)]
        simp [g]
      · have g' : aheadB xs[i] y = false := Bool.eq_false_iff.2 g
        simp only [g', Bool.not_false, Bool.false_eq_true, if_false, if_true, Bool.or_true]
        rw [if_pos (by omega), h2 _ true (by simp; omega)]
        simp [g']
    · rw [if_pos rfl, if_pos rfl]
      simp only [spec_l8Put.j1, Bool.false_eq_true, if_false, Bool.true_or, List.nil_append]
      rw [h2 acc true (by omega)]
theorem putL_ahead (y : S64) (B : List S64) : ∀ (A : List S64), (∀ q ∈ A, aheadB q y = true) → putL y (A ++ B) false = A ++ putL y B false
  | [], _ => rfl
  | q :: r, h => by
    have h1 := h q (by simp)
    have ih := putL_ahead y B r (fun z hz => h z (by simp [hz]))
    rw [List.cons_append, putL]
    simp [h1, ih]
theorem putL_done (y : S64) : ∀ (B : List S64), (∀ q ∈ B, aheadB q y = false) → putL y B true = B.filter (fun q => aheadB y q)
  | [], _ => rfl
  | q :: r, h => by
    have h1 := h q (by simp)
    rw [putL, Bool.true_or, putL_done y r (fun z hz => h z (by simp [hz])), List.filter_cons]
    by_cases g : aheadB y q = true <;> simp [h1, g]
theorem putL_behind (y : S64) (B : List S64) (h : ∀ q ∈ B, aheadB q y = false) : putL y B false = [y] ++ B.filter (fun q => aheadB y q) := by
  match B, h with
  | [], _ => rfl
  | q :: r, h =>
    have h1 := h q (by simp)
    rw [putL, h1, Bool.not_false, Bool.or_true, putL_done y r (fun z hz => h z (by simp [hz])), List.filter_cons]
    by_cases g : aheadB y q = true <;> simp [g]
theorem putL_at {xs : List S64} {y : S64} {p : Nat} (hr : ∀ (i j : Nat) (hi : i < j) (hj : j < xs.length), aheadB xs[i] xs[j] = true) (p2 : p ≤ xs.length) (p3 : ∀ (m : Nat) (hm : m < xs.length), m < p → aheadB xs[m] y = true) (p4 : ∀ (m : Nat) (hm : m < xs.length), p ≤ m → aheadB xs[m] y = false) :
    (∀ (h : p < xs.length), cmpB xs[p] y = 0 → putL y xs false = xs.take p ++ [y] ++ xs.drop (p + 1)) ∧ ((¬ ∃ h : p < xs.length, cmpB xs[p] y = 0) → putL y xs false = xs.take p ++ [y] ++ xs.drop p) := by
  have e0 : putL y xs false = xs.take p ++ ([y] ++ (xs.drop p).filter (fun q => aheadB y q)) := by
    have e1 : putL y xs false = putL y (xs.take p ++ xs.drop p) false := by rw [List.take_append_drop]
    rw [e1, putL_ahead, putL_behind]
    · intro q hq
      obtain ⟨i, hi, rfl⟩ := List.mem_iff_getElem.1 hq
      rw [List.length_drop] at hi
      rw [List.getElem_drop]
      exact p4 _ (by omega) (by omega)
    · intro q hq
      obtain ⟨i, hi, rfl⟩ := List.mem_iff_getElem.1 hq
      rw [List.length_take] at hi
      rw [List.getElem_take]
      exact p3 _ (by omega) (by omega)
  constructor
  · intro hp hz
    rw [cmpB_zero] at hz
    have e2 : (xs.drop p).filter (fun q => aheadB y q) = xs.drop (p + 1) := by
      rw [List.drop_eq_getElem_cons hp, List.filter_cons, if_neg (by rw [ahead_iff]; omega), List.filter_eq_self]
      intro q hq
      obtain ⟨i, hi, rfl⟩ := List.mem_iff_getElem.1 hq
      rw [List.length_drop] at hi
      rw [List.getElem_drop]
      have := hr p (p + 1 + i) (by omega) (by omega)
      rw [ahead_iff] at this ⊢
      omega
    rw [e0, e2, List.append_assoc]
  · intro hne
    have e2 : (xs.drop p).filter (fun q => aheadB y q) = xs.drop p := by
      rw [List.filter_eq_self]
      intro q hq
      obtain ⟨i, hi, rfl⟩ := List.mem_iff_getElem.1 hq
      rw [List.length_drop] at hi
      rw [List.getElem_drop]
      have hpl : p < xs.length := by omega
      have h1 := p4 p hpl (Nat.le_refl _)
      have h2 : ¬ cmpB xs[p] y = 0 := fun e => hne ⟨hpl, e⟩
      rw [cmpB_zero] at h2
      have h3 : ¬ aheadB xs[p] y = true := by simp [h1]
      rw [ahead_iff] at h3
      rw [ahead_iff]
      match i with
      | 0 => simp only [Nat.add_zero]; omega
      | i + 1 =>
        have := hr p (p + (i + 1)) (by omega) (by omega)
        rw [ahead_iff] at this
        omega
    rw [e0, e2, List.append_assoc]
def putB (xs : List S64) (y : S64) : Int × List S64 := if bindsF xs = 0 then (if keyB y.f0 y.f1 = true then (if symF y.f2.f0 y.f2.f1 = 0 then (if 24 < (putL y xs false).length then (2, []) else (0, putL y xs false)) else (symF y.f2.f0 y.f2.f1, [])) else (3, [])) else (bindsF xs, [])
theorem spec_PutBind_eq {k : Nat} (xs : List S64) (y : S64) (hk : 200 ≤ k) : spec_PutBind.f k xs y.f0 y.f1 y.f2.f0 y.f2.f1 = some (putB xs y) := by
  unfold spec_PutBind.f putB spec_l8Put.f
  rw [spec_l8Fault_eq _ (by omega)]
  simp only [Option.bind_some, spec_l8Key_eq, spec_l8Sym_eq]
  by_cases h : bindsF xs = 0
  · have hl := (binds_rise h).1
    have e : spec_l8Put.l0 k xs [] false 0 y.f0 y.f1 y.f2.f0 y.f2.f1 = some (putL y xs false) := by
      have := put_go hl y xs.length k 0 [] false (by omega) (Nat.zero_le _) (by omega) (Nat.zero_le _)
      simpa using this
    rw [if_pos h, if_pos h, e]
    simp only [Option.bind_some]
    by_cases g1 : keyB y.f0 y.f1 = true
    · rw [if_pos g1, if_pos g1]
      by_cases g2 : symF y.f2.f0 y.f2.f1 = 0
      · rw [if_pos g2, if_pos g2]
        by_cases g3 : 24 < (putL y xs false).length
        · rw [if_pos g3, if_pos (by omega)]
        · rw [if_neg g3, if_neg (by omega)]
      · rw [if_neg g2, if_neg g2]
    · rw [if_neg g1, if_neg g1]
  · rw [if_neg h, if_neg h]
theorem impl_PutBind_eq {k : Nat} (xs : List S64) (y : S64) (hk : 200 ≤ k) : impl_PutBind.f k xs y.f0 y.f1 y.f2.f0 y.f2.f1 = some (putB xs y) := by
  unfold impl_PutBind.f putB
  rw [impl_BindsFault_eq _ (by omega), impl_Bind_code_eq (by omega)]
  simp only [Option.bind_some]
  rw [impl_first2 (by omega)]
  simp only [Option.bind_some]
  by_cases h : bindsF xs = 0
  · obtain ⟨hl, hr⟩ := binds_rise h
    rw [if_pos h, if_pos h]
    by_cases g1 : keyB y.f0 y.f1 = true
    · rw [if_pos g1, if_pos g1]
      by_cases g2 : symF y.f2.f0 y.f2.f1 = 0
      · obtain ⟨p, p1, p2, p3, p4⟩ := search_at h y (k := k) (by omega)
        obtain ⟨f1, f2⟩ := putL_at hr p2 p3 p4
        rw [if_pos g2, if_pos g2]
        simp only [impl_Bind_69.f, Option.bind_some, List.nil_append, List.length_nil]
        rw [if_pos (by omega)]
        simp only [Option.bind_some, p1, decide_eq_true_eq, Int.toNat_natCast]
        by_cases hp : ∃ h : p < xs.length, cmpB xs[p] y = 0
        · have hb := hp.1
          rw [f1 hp.1 hp.2, if_pos hp, if_pos (by omega), if_pos (by omega), if_neg (by simp; omega), List.set_eq_take_append_cons_drop, if_pos hb]
          simp
        · rw [f2 hp, if_neg hp]
          have el : (xs.take p ++ [y] ++ xs.drop p).length = xs.length + 1 := by simp; omega
          rw [el]
          by_cases h3 : 24 ≤ xs.length
          · rw [if_pos (by omega), if_pos (by omega)]
          · rw [if_neg (by omega), if_neg (by omega)]
            unfold impl_Bind_72.f
            rw [if_pos (by simp), if_pos (by omega), if_pos (by omega), if_pos (by omega)]
            simp
      · rw [if_neg g2, if_neg g2]
    · rw [if_neg g1, if_neg g1, if_neg (by decide)]
  · rw [if_neg h, if_neg h, if_neg h]
theorem putL_len (y : S64) : ∀ (xs : List S64) (d : Bool), (putL y xs d).length ≤ 2 * xs.length + 1
  | [], d => by cases d <;> simp [putL]
  | q :: r, d => by
    have := putL_len y r (d || !aheadB q y)
    rw [putL, List.length_append, List.length_append, List.length_cons]
    have e1 : (if d = true then ([] : List S64) else if aheadB q y = true then [] else [y]).length ≤ 1 := by
      split
      · simp
      · split <;> simp
    have e2 : (if aheadB q y = true then [q] else if aheadB y q = true then [q] else ([] : List S64)).length ≤ 1 := by
      split
      · simp
      · split <;> simp
    omega
theorem putB_len (xs : List S64) (y : S64) : (putB xs y).2.length ≤ 24 := by
  unfold putB
  split
  · split
    · split
      · split
        · simp
        · simp only; omega
      · simp
    · simp
  · simp



theorem w4 (x : Int) : wrap64 (wrap64 (wrap64 (wrap64 (x + 1) + 1) + 1) + 1) = wrap64 (x + 4) := by unfold wrap64; omega
def putBd (x : Int) : S64 := ⟨x, wrap64 (x + 1), ⟨wrap64 (wrap64 (x + 1) + 1), wrap64 (wrap64 (wrap64 (x + 1) + 1) + 1)⟩⟩
theorem rdBset {xs : List S64} {j : Nat} {a : S64} (h : j < xs.length) : rd_T64 (xs.set j a) (j : Int) = a := by
  rw [rdBind (by rw [List.length_set]; exact h), List.getElem_set_self]
theorem laws_markBindS_eq {k : Nat} {x : Int} {xs : List S64} (hb : xs.length ≤ 1000000000000000) (hk : xs.length < k) (h0 : 0 ≤ x) (h1 : x ≤ 1000000000000000) : laws_markBindS.f k xs x = some (x + 4 * (xs.length : Int), marks putBd 4 xs.length x) := by
  have h := mark_loop laws_markBindS.l0 putBd 4 (by omega) (fun k xs x i => by
    simp only [laws_markBindS.l0]
    split
    · split
      · rename_i g1 g2
        obtain ⟨j, rfl⟩ := Int.eq_ofNat_of_zero_le g2
        have g3 : j < xs.length := by omega
        simp only [Option.bind_some, Int.toNat_natCast, List.set_set, rdBset g3, w4]
        rfl
      · rfl
    · rfl) xs.length k 0 x xs (by omega) rfl (Nat.zero_le _) hk h0 (by omega)
  rw [List.take_zero, List.nil_append] at h
  exact h
theorem laws_heldBindS_eq {k m : Nat} {x : Int} (hb : m ≤ 1000000000000000) (hk : m < k) (h0 : 0 ≤ x) (h1 : x ≤ 1000000000000000) : laws_heldBindS.f k (marks putBd 4 m x) x = some (x + 4 * (m : Int)) := by
  have h := held_loop laws_heldBindS.l0 rd_T64 (fun a x o => if a.f0 = x then (if a.f1 = wrap64 (x + 1) then (if a.f2.f0 = wrap64 (wrap64 (x + 1) + 1) then (if a.f2.f1 = wrap64 (wrap64 (wrap64 (x + 1) + 1) + 1) then o else some (-1)) else some (-1)) else some (-1)) else some (-1)) putBd 4 (by omega) (fun xs i h => rdBind h) (fun k xs x i => by simp only [laws_heldBindS.l0, w4]) (fun x o h0 h1 => by simp [putBd]) m k 0 x [] rfl (by omega) hk h0 (by omega)
  rw [List.nil_append] at h
  exact h
theorem laws_eqBindsResult_eq {k : Nat} {a b : Int} {xs ys : List S64} (hb : xs.length ≤ 4611686018427387904) (hk : xs.length < k) : laws_eqBindsResult.f k a xs b ys = some (decide (a = b ∧ xs = ys)) := by
  unfold laws_eqBindsResult.f
  rw [laws_eqBindS_eq hb hk]
  simp only [Option.bind_some]
  by_cases h1 : a = b <;> by_cases h2 : xs = ys <;> simp [h1, h2]
theorem laws_markBindsResult_eq {k : Nat} {a x : Int} {xs : List S64} (hb : xs.length ≤ 1000000000000000) (hk : xs.length < k) (h0 : 0 ≤ x) (h1 : x ≤ 1000000000000000) : laws_markBindsResult.f k a xs x = some (x + 4 * (xs.length : Int), marks putBd 4 xs.length x) := by
  unfold laws_markBindsResult.f
  rw [laws_markBindS_eq hb hk h0 h1]
  rfl
theorem laws_heldBindsResult_eq {k m : Nat} {a x : Int} (hb : m ≤ 1000000000000000) (hk : m < k) (h0 : 0 ≤ x) (h1 : x ≤ 1000000000000000) : laws_heldBindsResult.f k a (marks putBd 4 m x) x = some (x + 4 * (m : Int)) := by
  unfold laws_heldBindsResult.f
  rw [laws_heldBindS_eq hb hk h0 h1]
  simp only [Option.bind_some]
  rw [if_neg (by omega)]


theorem FnExactPutBind : ∀ (x0 : List (S55)) (x1 : S55), (x0.length ≤ maxLen ∧ x0.length * 32 ≤ 140737488351232 ∧ ∀ y ∈ x0, ((Lit.int .i64 y.f0).wf = true) ∧ ((Lit.int .i64 y.f1).wf = true) ∧ (((Lit.int .i64 y.f2.f0).wf = true) ∧ ((Lit.int .i64 y.f2.f1).wf = true))) → (((Lit.int .i64 x1.f0).wf = true) ∧ ((Lit.int .i64 x1.f1).wf = true) ∧ (((Lit.int .i64 x1.f2.f0).wf = true) ∧ ((Lit.int .i64 x1.f2.f1).wf = true))) → ∃ k, laws_FnExactPutBind.f k x0 x1.f0 x1.f1 x1.f2.f0 x1.f2.f1 = some true := by
  intro xs y hx hy
  obtain ⟨hm, hb, hw⟩ := hx
  refine ⟨xs.length + 300, ?_⟩
  generalize hK : xs.length + 300 = K
  unfold laws_FnExactPutBind.f
  rw [laws_szBindS_eq (by omega) (by omega) (by omega)]
  simp only [Option.bind_some]
  by_cases h : (1048576 : Int) - (xs.length : Int) < 0
  · simp [h]
  rw [if_neg h, if_neg h, laws_toBindS_eq (by omega) (by omega)]
  simp only [Option.bind_some, laws_toBind.f, laws_toSym.f]
  have hl := putB_len (xs.map toBind) ⟨y.f0, y.f1, ⟨y.f2.f0, y.f2.f1⟩⟩
  have hml : (xs.map toBind).length = xs.length := List.length_map _
  have e1 := spec_PutBind_eq (k := K) (xs.map toBind) ⟨y.f0, y.f1, ⟨y.f2.f0, y.f2.f1⟩⟩ (by omega)
  have e2 := impl_PutBind_eq (k := K) (xs.map toBind) ⟨y.f0, y.f1, ⟨y.f2.f0, y.f2.f1⟩⟩ (by omega)
  dsimp only at e1 e2
  simp only [e1, e2, Option.bind_some]
  generalize putB (xs.map toBind) ⟨y.f0, y.f1, ⟨y.f2.f0, y.f2.f1⟩⟩ = q at hl ⊢
  rw [laws_eqBindsResult_eq (by omega) (by omega), laws_eqBindS_eq (by omega) (by omega)]
  simp only [Option.bind_some, and_self, decide_true, if_true]
  rw [laws_markBindS_eq (by omega) (by omega) (by omega) (by omega)]
  simp only [Option.bind_some]
  rw [if_neg (by omega), laws_markBindsResult_eq (by omega) (by omega) (by omega) (by omega)]
  simp only [Option.bind_some]
  rw [laws_heldBindsResult_eq (by omega) (by omega) (by omega) (by omega)]
  simp only [Option.bind_some, if_true]
  rw [if_neg (by omega), if_neg (by omega)]

end Go.Proofs.Ytpoafgokngpglaa.Pure
