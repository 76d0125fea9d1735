/- BindsFault: for every list of binds the program's answer is the reference's, and the binds stay as they were. No condition. -/
import Derived.Test.YticblminpeodjaaPFnExactBindsFaultx
import Derived.Test.YticblminpeodjaaPlain
namespace Go.Proofs.Yticblminpeodjaa.Pure
open Go Go.RowKit Go.Proofs.Yticblminpeodjaa.PFnExactBindsFault Go.Proofs.YticblminpeodjaaW.PrintWords Go.Proofs.YticblminpeodjaaW.PrintLast Go.Proofs.YticblminpeodjaaPlain
set_option linter.unusedVariables false
set_option linter.unusedSimpArgs false

instance : DecidableEq S23 := fun a b => match a, b with
  | ⟨a0, a1⟩, ⟨b0, b1⟩ => decidable_of_iff (a0 = b0 ∧ a1 = b1) (by simp)
instance : DecidableEq S63 := fun a b => match a, b with
  | ⟨a0, a1, a2⟩, ⟨b0, b1, b2⟩ => decidable_of_iff (a0 = b0 ∧ a1 = b1 ∧ a2 = b2) (by simp)
instance : DecidableEq S25 := fun a b => match a, b with
  | ⟨a0, a1⟩, ⟨b0, b1⟩ => decidable_of_iff (a0 = b0 ∧ a1 = b1) (by simp)
instance : DecidableEq S68 := fun a b => match a, b with
  | ⟨a0, a1, a2⟩, ⟨b0, b1, b2⟩ => decidable_of_iff (a0 = b0 ∧ a1 = b1 ∧ a2 = b2) (by simp)

theorem spec_l1In_eq (x a b : Int) : spec_l1In.f x a b = some (decide (a ≤ x ∧ x ≤ b)) := by
  unfold spec_l1In.f
  split <;> (congr 1; simp_all) <;> omega

theorem impl_in_eq (x a b : Int) : impl_in.f x a b = some (decide (a ≤ x ∧ x ≤ b)) := by
  unfold impl_in.f
  split <;> (congr 1; simp_all) <;> omega

theorem spec_l1Char_eq (x : Int) : spec_l1Char.f x = some (isCh x) := by
  unfold spec_l1Char.f isCh
  simp only [spec_l1In_eq, Option.bind_some]
  by_cases h : 0 ≤ x ∧ x ≤ 55295
  · simp [h]
  · rw [if_neg (by simpa using h)]
    congr 1
    simp only [h, false_or]

theorem impl_isChar_eq (x : Int) : impl_isChar.f x = some (isCh x) := by
  unfold impl_isChar.f isCh
  simp only [impl_in_eq, Option.bind_some]
  by_cases h : 0 ≤ x ∧ x ≤ 65535
  · rw [if_pos (by simpa using h), ← decide_not]
    congr 1
    refine decide_eq_decide.2 ?_
    omega
  · rw [if_neg (by simpa using h)]
    congr 1
    symm
    rw [decide_eq_false_iff_not]
    omega

theorem impl_isBit_eq (x : Int) : impl_isBit.f x = some (decide (x = 1 ∨ x = 2 ∨ x = 4)) := by
  unfold impl_isBit.f
  by_cases h1 : x = 1 <;> by_cases h2 : x = 2 <;> simp [h1, h2] <;> rfl
/-- Has a sym the value of its kind? -/
def symV (a b : Int) : Bool := if a = 1 then isCh b else if a = 2 then decide (0 ≤ b ∧ b ≤ 3) else if a = 3 then decide (b = 1 ∨ b = 2 ∨ b = 4) else if a = 5 then decide (1 ≤ b ∧ b ≤ 3) else if a = 6 then decide (0 ≤ b ∧ b ≤ 2) else decide (b = 0)
/-- What is wrong with a sym. -/
def symF (a b : Int) : Int := if 0 ≤ a ∧ a ≤ 6 then (if symV a b = true then 0 else 3) else 1
theorem spec_l8Value_eq (a b : Int) : spec_l8Value.f a b = some (symV a b) := by
  unfold spec_l8Value.f symV
  simp only [spec_l1In_eq, spec_l1Char_eq, Option.bind_some]
  by_cases h1 : a = 1
  · simp [h1]
  by_cases h2 : a = 2
  · simp [h2]
  by_cases h3 : a = 3
  · subst h3
    by_cases g1 : b = 1 <;> by_cases g2 : b = 2 <;> simp [g1, g2] <;> rfl
  by_cases h4 : a = 5
  · simp [h4]
  by_cases h5 : a = 6
  · simp [h5]
  simp [h1, h2, h3, h4, h5]
  rfl
theorem spec_l8Sym_eq (a b : Int) : spec_l8Sym.f a b = some (symF a b) := by
  unfold spec_l8Sym.f symF
  simp only [spec_l1In_eq, spec_l8Value_eq, Option.bind_some]
  by_cases h : 0 ≤ a ∧ a ≤ 6
  · simp only [h, and_self, decide_true, if_true]
    split <;> simp_all
  · simp only [h, decide_false, Bool.false_eq_true, if_false]
theorem impl_SymFault_eq {k : Nat} (hk : 1 ≤ k) (a b : Int) : impl_SymFault.f k a b = some (symF a b) := by
  obtain ⟨k, rfl⟩ : ∃ m, k = m + 1 := ⟨k - 1, by omega⟩
  unfold impl_SymFault.f symF
  simp only [impl_SymFault.j0, impl_in_eq, impl_isChar_eq, impl_isBit_eq, impl_unless.f, Option.bind_some]
  by_cases h0 : a = 0
  · subst h0
    by_cases g : b = 0 <;> simp [symV, g]
  by_cases h1 : a = 1
  · subst h1
    cases g : isCh b <;> simp [symV, g]
  by_cases h2 : a = 2
  · subst h2
    by_cases g : 0 ≤ b ∧ b ≤ 3 <;> simp [symV, g]
  by_cases h3 : a = 3
  · subst h3
    by_cases g : b = 1 ∨ b = 2 ∨ b = 4 <;> simp [symV, g]
  by_cases h4 : a = 4
  · subst h4
    by_cases g : b = 0 <;> simp [symV, g]
  by_cases h5 : a = 5
  · subst h5
    by_cases g : 1 ≤ b ∧ b ≤ 3 <;> simp [symV, g]
  by_cases h6 : a = 6
  · subst h6
    by_cases g : 0 ≤ b ∧ b ≤ 2 <;> simp [symV, g]
  have h : ¬ (0 ≤ a ∧ a ≤ 6) := by omega
  simp [h0, h1, h2, h3, h4, h5, h6, h]

theorem impl_first2 {k : Nat} (hk : 3 ≤ k) (a b : Int) : impl_first.f k [a, b] = some (if a = 0 then b else a) := by
  obtain ⟨k, rfl⟩ : ∃ m, k = m + 3 := ⟨k - 3, by omega⟩
  have w0 : wrap64 1 = 1 := by unfold wrap64; omega
  have w1 : wrap64 2 = 2 := by unfold wrap64; omega
  by_cases h1 : a = 0
  · by_cases h2 : b = 0
    · simp [impl_first.f, impl_first.l0, rd, w0, w1, h1, h2]
    · simp [impl_first.f, impl_first.l0, rd, w0, w1, h1, h2]
  · simp [impl_first.f, impl_first.l0, rd, w0, w1, h1]

theorem impl_unless_eq (b : Bool) (x : Int) : impl_unless.f b x = some (if b = true then 0 else x) := by
  unfold impl_unless.f
  split <;> rfl

theorem laws_szBindS_eq {xs} {n : Int} (h : (List.length xs : Int) ≤ 8796093022208) (hn : n ≤ 1048576) (h0 : -1 ≤ n) : laws_szBindS.f xs n = some (if n - (List.length xs : Int) < 0 then -1 else n - (List.length xs : Int)) := by
  unfold laws_szBindS.f
  rw [w64 (by omega)]
  split <;> rfl


def toBind (x : S63) : S68 := ⟨x.f0, x.f1, ⟨x.f2.f0, x.f2.f1⟩⟩
theorem rdBinda {xs : List S63} {i : Nat} (h : i < xs.length) : rd_T63 xs (i : Int) = xs[i] := rdOf_nat h
theorem rdBind {xs : List S68} {i : Nat} (h : i < xs.length) : rd_T68 xs (i : Int) = xs[i] := rdOf_nat h
theorem laws_toBindS_eq {k : Nat} {xs : List S63} (hb : xs.length ≤ 8796093022208) (hk : xs.length < k) : laws_toBindS.f k xs = some (xs.map toBind) := by
  unfold laws_toBindS.f
  rw [if_pos (by omega), if_pos (by omega)]
  exact copy_loop laws_toBindS.l0 toBind rd_T63 (fun a c => c (toBind a)) (fun xs i h => rdBinda h) (fun k xs ys i => by
    simp only [laws_toBindS.l0, laws_toBind.f, laws_toSym.f, Option.bind_some]
    rfl) (fun a c => rfl) (xs := xs) (by omega) _ k 0 (List.replicate ((xs.length : Int)).toNat z68) (by simp) rfl (Nat.zero_le _) hk (by simp)
theorem laws_eqBind_eq (a b : S68) : laws_eqBind.f a.f0 a.f1 a.f2.f0 a.f2.f1 b.f0 b.f1 b.f2.f0 b.f2.f1 = some (decide (a = b)) := by
  unfold laws_eqBind.f laws_eqSym.f
  obtain ⟨a0, a1, a2, a3⟩ := a
  obtain ⟨b0, b1, b2, b3⟩ := b
  by_cases h1 : a0 = b0 <;> by_cases h2 : a1 = b1 <;> by_cases h3 : a2 = b2 <;> by_cases h4 : a3 = b3 <;> simp [h1, h2, h3, h4]
theorem laws_eqBindS_eq {k : Nat} {xs ys : List S68} (hb : xs.length ≤ 4611686018427387904) (hk : xs.length < k) : laws_eqBindS.f k xs ys = some (decide (xs = ys)) :=
  eq_fun (fun hl => eq_loop laws_eqBindS.l0 rd_T68 (fun a b c => if a = b then c else some false) (fun xs i h => rdBind h) (fun k xs ys i => by simp only [laws_eqBindS.l0, laws_eqBind_eq, Option.bind_some, decide_eq_true_eq]) (fun a b c => rfl) hl hb _ k 0 rfl (Nat.zero_le _) (by omega))



def keyB (a b : Int) : Bool := decide (1 ≤ a ∧ a ≤ 40) && decide (0 ≤ b ∧ b ≤ 7)
def aheadB (x y : S68) : Bool := decide (x.f0 < y.f0 ∨ (x.f0 = y.f0 ∧ x.f1 < y.f1))
theorem spec_l8Key_eq (a b : Int) : spec_l8Key.f a b = some (keyB a b) := by
  unfold spec_l8Key.f keyB
  simp only [spec_l1In_eq, Option.bind_some]
  by_cases h : 1 ≤ a ∧ a ≤ 40 <;> simp [h]
theorem spec_l8Ahead_eq (x y : S68) : spec_l8Ahead.f x.f0 x.f1 x.f2.f0 x.f2.f1 y.f0 y.f1 y.f2.f0 y.f2.f1 = some (aheadB x y) := by
  unfold spec_l8Ahead.f aheadB
  by_cases h1 : x.f0 < y.f0
  · simp [h1]
  · by_cases h2 : x.f0 = y.f0 <;> simp [h1, h2]
/-- What is wrong with the i-th bind. -/
def bindC (xs : List S68) (i : Int) : Int := if keyB (rd_T68 xs i).f0 (rd_T68 xs i).f1 = true then (if symF (rd_T68 xs i).f2.f0 (rd_T68 xs i).f2.f1 = 0 then (if 0 < i ∧ ¬ aheadB (rd_T68 xs (i - 1)) (rd_T68 xs i) = true then 1 else 0) else symF (rd_T68 xs i).f2.f0 (rd_T68 xs i).f2.f1) else 3
def bindsF (xs : List S68) : Int := if xs.length ≤ 24 then codeFrom (bindC xs) xs.length 0 else 2
theorem spec_l8Fault_eq {k : Nat} (xs : List S68) (hk : 60 ≤ k) : spec_l8Fault.f k xs = some (bindsF xs) := by
  unfold spec_l8Fault.f bindsF
  by_cases h2 : xs.length ≤ 24
  · rw [if_neg (by omega), if_pos h2]
    exact code_loop (fun k i => spec_l8Fault.l0 k xs i) (bindC xs) xs.length 0 (fun k i hk h0 hi => by
        have e1 : wrap64 (i - 1) = i - 1 := w64 (by omega)
        have e2 : wrap64 (i + 1) = i + 1 := w64 (by omega)
        have e3 : i - 1 < (xs.length : Int) := by omega
        simp only [spec_l8Fault.l0, spec_l8Key_eq, spec_l8Sym_eq, spec_l8Ahead_eq, Option.bind_some, if_pos h0, if_pos hi, e1, e2, if_pos e3]
        unfold bindC
        by_cases g1 : keyB (rd_T68 xs i).f0 (rd_T68 xs i).f1 = true
        · by_cases g2 : symF (rd_T68 xs i).f2.f0 (rd_T68 xs i).f2.f1 = 0
          · by_cases g3 : 0 < i
            · have e4 : 0 ≤ i - 1 := by omega
              have e5 : 1 ≤ i := by omega
              by_cases g4 : aheadB (rd_T68 xs (i - 1)) (rd_T68 xs i) = true <;> simp [g1, g2, g3, g4, e4, e5]
            · simp [g1, g2, g3]
          · simp [g1, g2]
        · simp [g1]) (fun k hk => by simp only [spec_l8Fault.l0]; rw [if_neg (by omega)]) xs.length k 0 (by omega) (by omega) (by omega)
  · rw [if_pos (by omega), if_neg h2]
theorem symF_code (a b : Int) : symF a b = 0 ∨ symF a b = 1 ∨ symF a b = 3 := by
  unfold symF
  split
  · split <;> simp
  · simp
theorem impl_Bind_code_eq {k : Nat} (hk : 4 ≤ k) (x : S68) : impl_Bind_code.f k x.f0 x.f1 x.f2.f0 x.f2.f1 = some (if keyB x.f0 x.f1 = true then symF x.f2.f0 x.f2.f1 else 3) := by
  unfold impl_Bind_code.f impl_isKey.f keyB
  simp only [impl_in_eq, impl_unless_eq, Option.bind_some, impl_SymFault_eq (show 1 ≤ k by omega), impl_first2 (show 3 ≤ k by omega)]
  by_cases h1 : 1 ≤ x.f0 ∧ x.f0 ≤ 40 <;> by_cases h2 : 0 ≤ x.f1 ∧ x.f1 ≤ 7 <;> simp [h1, h2]
theorem cmp_Or2 {k : Nat} (hk : 3 ≤ k) (a b : Int) : cmp_Or_int.f k [a, b] = some (if a = 0 then b else a) := by
  obtain ⟨k, rfl⟩ : ∃ m, k = m + 3 := ⟨k - 3, by omega⟩
  have w0 : wrap64 1 = 1 := by unfold wrap64; omega
  have w1 : wrap64 2 = 2 := by unfold wrap64; omega
  by_cases h1 : a = 0
  · by_cases h2 : b = 0
    · simp [cmp_Or_int.f, cmp_Or_int.l0, rd, w0, w1, h1, h2]
    · simp [cmp_Or_int.f, cmp_Or_int.l0, rd, w0, w1, h1, h2]
  · simp [cmp_Or_int.f, cmp_Or_int.l0, rd, w0, w1, h1]
def cmpI (a b : Int) : Int := if a < b then -1 else if a > b then 1 else 0
theorem cmp_Compare_eq (a b : Int) : cmp_Compare_int64.f a b = some (cmpI a b) := by
  unfold cmp_Compare_int64.f cmp_isNaN_int64.f cmpI
  simp
  split
  · rfl
  · split <;> rfl
def cmpB (x y : S68) : Int := if cmpI x.f0 y.f0 = 0 then cmpI x.f1 y.f1 else cmpI x.f0 y.f0
theorem impl_Bind_compare_eq {k : Nat} (hk : 3 ≤ k) (x y : S68) : impl_Bind_compare.f k x.f0 x.f1 x.f2.f0 x.f2.f1 y.f0 y.f1 y.f2.f0 y.f2.f1 = some (cmpB x y) := by
  unfold impl_Bind_compare.f
  simp only [cmp_Compare_eq, Option.bind_some, cmp_Or2 hk]
  rfl
theorem cmpB_ahead (x y : S68) : decide (cmpB x y < 0) = aheadB x y := by
  unfold cmpB cmpI aheadB
  refine decide_eq_decide.2 ?_
  by_cases h1 : x.f0 < y.f0
  · simp [h1]
  · by_cases h2 : x.f0 > y.f0
    · have h3 : ¬ x.f0 = y.f0 := by omega
      simp [h1, h2, h3]
    · have h3 : x.f0 = y.f0 := by omega
      by_cases h4 : x.f1 < y.f1
      · simp [h1, h2, h3, h4]
      · by_cases h5 : x.f1 > y.f1 <;> simp [h1, h2, h3, h4, h5]
theorem impl_BindsFault_eq {k : Nat} (xs : List S68) (hk : 60 ≤ k) : impl_BindsFault.f k xs = some (bindsF xs) := by
  unfold impl_BindsFault.f bindsF
  by_cases h2 : xs.length ≤ 24
  · rw [if_neg (by omega), if_pos h2]
    exact code_loop (fun k i => impl_BindsFault.l0 k xs xs (xs.length : Int) i) (bindC xs) xs.length 10 (fun k i hk h0 hi => by
        have e1 : wrap64 (i - 1) = i - 1 := w64 (by omega)
        have e2 : wrap64 (i + 1) = i + 1 := w64 (by omega)
        have e3 : i - 1 < (xs.length : Int) := by omega
        simp only [impl_BindsFault.l0, impl_Bind_code_eq (show 4 ≤ k by omega), impl_Bind_compare_eq (show 3 ≤ k by omega), cmpB_ahead, impl_unless_eq, impl_first2 (show 3 ≤ k by omega), Option.bind_some, if_pos h0, if_pos hi, e1, e2, if_pos e3]
        unfold bindC
        by_cases g2 : i = 0
        · subst g2
          by_cases g1 : keyB (rd_T68 xs 0).f0 (rd_T68 xs 0).f1 = true
          · rcases symF_code (rd_T68 xs 0).f2.f0 (rd_T68 xs 0).f2.f1 with g | g | g <;> simp [g1, g]
          · simp [g1]
        · have e4 : 0 ≤ i - 1 := by omega
          have e5 : 1 ≤ i := by omega
          have e6 : 0 < i := by omega
          by_cases g1 : keyB (rd_T68 xs i).f0 (rd_T68 xs i).f1 = true
          · by_cases g4 : aheadB (rd_T68 xs (i - 1)) (rd_T68 xs i) = true <;> rcases symF_code (rd_T68 xs i).f2.f0 (rd_T68 xs i).f2.f1 with g | g | g <;> simp [g1, g2, g4, g, e4, e5, e6]
          · simp [g1, g2, e4, e5]) (fun k hk => by simp only [impl_BindsFault.l0]; rw [if_neg (by omega)]) xs.length k 0 (by omega) (by omega) (by omega)
  · rw [if_pos (by omega), if_neg h2]


theorem FnExactBindsFault : ∀ (x0 : List (S63)), (x0.length ≤ maxLen ∧ x0.length * 32 ≤ 140737488351232 ∧ ∀ y ∈ x0, ((Lit.int .i64 y.f0).wf = true) ∧ ((Lit.int .i64 y.f1).wf = true) ∧ (((Lit.int .i64 y.f2.f0).wf = true) ∧ ((Lit.int .i64 y.f2.f1).wf = true))) → ∃ k, laws_FnExactBindsFault.f k x0 = some true := by
  intro xs hx
  obtain ⟨hm, hb, hw⟩ := hx
  refine ⟨xs.length + 100, ?_⟩
  unfold laws_FnExactBindsFault.f
  rw [laws_szBindS_eq (by omega) (by omega) (by omega)]
  simp only [Option.bind_some]
  by_cases h : (1048576 : Int) - (xs.length : Int) < 0
  · simp [h]
  rw [if_neg h, if_neg h, laws_toBindS_eq (by omega) (by omega)]
  unfold spec_BindsFault.f
  simp only [Option.bind_some]
  rw [spec_l8Fault_eq _ (by omega), impl_BindsFault_eq _ (by omega)]
  simp only [Option.bind_some, if_true]
  rw [laws_eqBindS_eq (by rw [List.length_map]; omega) (by rw [List.length_map]; omega)]
  simp

end Go.Proofs.Yticblminpeodjaa.Pure
