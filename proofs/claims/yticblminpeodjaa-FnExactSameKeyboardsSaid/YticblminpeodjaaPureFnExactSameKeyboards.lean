/- SameKeyboards: for every two keyboards the program's answer is the reference's, and both stay as they were. No condition. -/
import Derived.Test.YticblminpeodjaaPFnExactSameKeyboardsx
import Derived.Test.YticblminpeodjaaPlain
namespace Go.Proofs.Yticblminpeodjaa.Pure
open Go Go.RowKit Go.Proofs.Yticblminpeodjaa.PFnExactSameKeyboards Go.Proofs.YticblminpeodjaaW.PrintWords Go.Proofs.YticblminpeodjaaW.PrintLast Go.Proofs.YticblminpeodjaaPlain
set_option linter.unusedVariables false
set_option linter.unusedSimpArgs false

instance : DecidableEq S119 := fun a b => match a, b with
  | ⟨a0, a1⟩, ⟨b0, b1⟩ => decidable_of_iff (a0 = b0 ∧ a1 = b1) (by simp)
instance : DecidableEq S93 := fun a b => match a, b with
  | ⟨a0, a1⟩, ⟨b0, b1⟩ => decidable_of_iff (a0 = b0 ∧ a1 = b1) (by simp)
instance : DecidableEq S36 := fun a b => match a, b with
  | ⟨a0, a1, a2⟩, ⟨b0, b1, b2⟩ => decidable_of_iff (a0 = b0 ∧ a1 = b1 ∧ a2 = b2) (by simp)

theorem rdHolda {xs : List S119} {i : Nat} (h : i < xs.length) : rd_T119 xs (i : Int) = xs[i] := getD_nat h
def toHold (p : S119) : S93 := ⟨p.f0, p.f1⟩
theorem laws_toHoldS_eq {k : Nat} {xs : List S119} (hb : xs.length ≤ 8796093022208) (hk : xs.length < k) : laws_toHoldS.f k xs = some (xs.map toHold) := by
  unfold laws_toHoldS.f
  rw [if_pos (by omega), if_pos (by omega)]
  exact copy_loop laws_toHoldS.l0 toHold rd_T119 (fun a c => c (toHold a)) (fun xs i h => rdHolda h) (fun k xs ys i => by simp only [laws_toHoldS.l0, laws_toHold.f, Option.bind_some, toHold]) (fun a c => rfl) (xs := xs) (by omega) _ k 0 (List.replicate ((xs.length : Int)).toNat z93) (by simp) rfl (Nat.zero_le _) hk (by simp)
theorem rdHoldb {xs : List S93} {i : Nat} (h : i < xs.length) : rd_T93 xs (i : Int) = xs[i] := getD_nat h
theorem laws_eqHold_eq (a b : S93) : laws_eqHold.f a.f0 a.f1 b.f0 b.f1 = some (decide (a = b)) := by
  unfold laws_eqHold.f
  obtain ⟨a0, a1⟩ := a
  obtain ⟨b0, b1⟩ := b
  by_cases h1 : a0 = b0 <;> by_cases h2 : a1 = b1 <;> simp [h1, h2]
theorem laws_eqHoldS_eq {k : Nat} {xs ys : List S93} (hb : xs.length ≤ 4611686018427387904) (hk : xs.length < k) : laws_eqHoldS.f k xs ys = some (decide (xs = ys)) :=
  eq_fun (fun hl => eq_loop laws_eqHoldS.l0 rd_T93 (fun a b c => if a = b then c else some false) (fun xs i h => rdHoldb h) (fun k xs ys i => by simp only [laws_eqHoldS.l0, laws_eqHold_eq, Option.bind_some, decide_eq_true_eq]) (fun a b c => rfl) hl hb _ k 0 rfl (Nat.zero_le _) (by omega))
/-- What is left of a size, or -1. -/
theorem laws_szHoldS_eq {xs : List S119} {n : Int} (h : (xs.length : Int) ≤ 8796093022208) (hn : n ≤ 1048576) (h0 : -1 ≤ n) : laws_szHoldS.f xs n = some (if n - (xs.length : Int) < 0 then -1 else n - (xs.length : Int)) := by
  unfold laws_szHoldS.f
  rw [w64 (by omega)]
  split <;> rfl

theorem laws_eqKeyboard_eq {k : Nat} {xs ys} {a b : Bool} {x y : Int} (hb : xs.length ≤ 4611686018427387904) (hk : xs.length < k) : laws_eqKeyboard.f k xs a x ys b y = some (decide (xs = ys ∧ a = b ∧ x = y)) := by
  unfold laws_eqKeyboard.f
  rw [laws_eqHoldS_eq hb hk]
  simp only [Option.bind_some]
  by_cases h1 : xs = ys <;> by_cases h2 : a = b <;> by_cases h3 : x = y <;> simp [h1, h2, h3]
theorem laws_szKeyboard_eq {xs} {a : Bool} {x n : Int} (h : (List.length xs : Int) ≤ 8796093022208) (hn : n ≤ 1048576) (h0 : -1 ≤ n) : laws_szKeyboard.f xs a x n = some (if n - (List.length xs : Int) < 0 then -1 else n - (List.length xs : Int)) := by
  unfold laws_szKeyboard.f
  rw [laws_szHoldS_eq h hn h0]
  simp only [Option.bind_some]
  by_cases g : n - (List.length xs : Int) < 0
  · simp [g]
  · simp only [if_neg g]


theorem impl_Hold_eq {k : Nat} {xs ys : List S93} (hb : xs.length ≤ 4611686018427387904) (hk : xs.length < k) : impl_Hold.f k xs ys = some (decide (xs = ys)) :=
  eq_fun (l := fun k xs ys i => impl_Hold.l0 k xs ys (xs.length : Int) i) (fun hl => eq_loop (fun k xs ys i => impl_Hold.l0 k xs ys (xs.length : Int) i) rd_T93 (fun a b c => if (!(a.f0 == b.f0) || (!(a.f1 == b.f1))) = true then some false else c) (fun xs i h => rdHoldb h) (fun k xs ys i => by
    by_cases h : i < (xs.length : Int)
    · simp only [impl_Hold.l0, if_pos h]
    · simp only [impl_Hold.l0, if_neg h]) (fun a b c => by
    obtain ⟨a0, a1⟩ := a; obtain ⟨b0, b1⟩ := b; by_cases h1 : a0 = b0 <;> by_cases h2 : a1 = b1 <;> simp [h1, h2]) hl hb _ k 0 rfl (Nat.zero_le _) (by omega))



theorem spec_l9Same_eq {k : Nat} {xs ys : List S93} (a b : Bool) (x y : Int) (hb : xs.length ≤ 4611686018427387904) (hk : xs.length + 1 < k) : spec_l9Same.f k xs a x ys b y = some (decide (a = b ∧ x = y ∧ xs = ys)) := by
  obtain ⟨k, rfl⟩ : ∃ m, k = m + 1 := ⟨k - 1, by omega⟩
  unfold spec_l9Same.f
  simp only [spec_l9Same.j0]
  by_cases h1 : a = b
  · by_cases h2 : x = y
    · by_cases h3 : xs.length = ys.length
      · have h := eq_loop (fun k xs ys i => spec_l9Same.l0 k i xs a x ys b y) rd_T93 (fun a b c => if (!(a.f0 == b.f0) || (!(a.f1 == b.f1))) = true then some false else c) (fun xs i h => rdHoldb h) (fun k xs ys i => by simp only [spec_l9Same.l0]) (fun a b c => by obtain ⟨a0, a1⟩ := a; obtain ⟨b0, b1⟩ := b; by_cases h1 : a0 = b0 <;> by_cases h2 : a1 = b1 <;> simp [h1, h2]) h3 hb _ k 0 rfl (Nat.zero_le _) (by omega)
        subst h1
        subst h2
        simp [h3]
        simpa using h
      · have : xs ≠ ys := fun e => h3 (by rw [e])
        have h4 : ((xs.length : Int) != (ys.length : Int)) = true := by simp; omega
        simp [h1, h2, h4, this]
    · simp [h1, h2]
  · simp [h1]


theorem laws_toKeyboard_eq {k : Nat} {xs} {a : Bool} {x : Int} (hb : xs.length ≤ 8796093022208) (hk : xs.length < k) : laws_toKeyboard.f k xs a x = some (xs.map toHold, a, x) := by
  unfold laws_toKeyboard.f
  rw [laws_toHoldS_eq hb hk]
  rfl

theorem FnExactSameKeyboards : ∀ (x0 : S36) (x1 : S36), ((x0.f0.length ≤ maxLen ∧ x0.f0.length * 16 ≤ 140737488351232 ∧ ∀ y ∈ x0.f0, ((Lit.int .i64 y.f0).wf = true) ∧ ((Lit.int .i64 y.f1).wf = true)) ∧ (True) ∧ ((Lit.int .i64 x0.f2).wf = true)) → ((x1.f0.length ≤ maxLen ∧ x1.f0.length * 16 ≤ 140737488351232 ∧ ∀ y ∈ x1.f0, ((Lit.int .i64 y.f0).wf = true) ∧ ((Lit.int .i64 y.f1).wf = true)) ∧ (True) ∧ ((Lit.int .i64 x1.f2).wf = true)) → ∃ k, laws_FnExactSameKeyboards.f k x0.f0 x0.f1 x0.f2 x1.f0 x1.f1 x1.f2 = some true := by
  intro x y hx hy
  obtain ⟨⟨hm, hb, hw⟩, _, _⟩ := hx
  obtain ⟨⟨hm', hb', hw'⟩, _, _⟩ := hy
  refine ⟨x.f0.length + y.f0.length + 100, ?_⟩
  unfold laws_FnExactSameKeyboards.f
  rw [laws_szKeyboard_eq (by omega) (by omega) (by omega)]
  simp only [Option.bind_some]
  by_cases hs : 1048576 - (x.f0.length : Int) < 0
  · rw [if_pos hs]; simp
  · rw [if_neg hs, if_neg hs, laws_szKeyboard_eq (by omega) (by omega) (by omega)]
    simp only [Option.bind_some]
    by_cases hs2 : 1048576 - (x.f0.length : Int) - (y.f0.length : Int) < 0
    · rw [if_pos hs2]; simp
    · rw [if_neg hs2, if_neg hs2]
      rw [laws_toKeyboard_eq (by omega) (by omega), laws_toKeyboard_eq (by omega) (by omega)]
      simp only [Option.bind_some]
      have h1 : spec_SameKeyboards.f (x.f0.length + y.f0.length + 100) (x.f0.map toHold) x.f1 x.f2 (y.f0.map toHold) y.f1 y.f2 = some (decide (x.f1 = y.f1 ∧ x.f2 = y.f2 ∧ x.f0.map toHold = y.f0.map toHold)) := by
        unfold spec_SameKeyboards.f
        rw [spec_l9Same_eq _ _ _ _ (by simp; omega) (by simp; omega)]
        rfl
      have h2 : impl_SameKeyboards.f (x.f0.length + y.f0.length + 100) (x.f0.map toHold) x.f1 x.f2 (y.f0.map toHold) y.f1 y.f2 = some (decide (x.f1 = y.f1 ∧ x.f2 = y.f2 ∧ x.f0.map toHold = y.f0.map toHold)) := by
        unfold impl_SameKeyboards.f
        rw [impl_Hold_eq (by simp; omega) (by simp; omega)]
        by_cases e1 : x.f1 = y.f1 <;> by_cases e2 : x.f2 = y.f2 <;> simp [e1, e2]
      rw [h1, h2]
      simp only [Option.bind_some]
      rw [laws_eqKeyboard_eq (by simp; omega) (by simp; omega), laws_eqKeyboard_eq (by simp; omega) (by simp; omega)]
      simp

end Go.Proofs.Yticblminpeodjaa.Pure
