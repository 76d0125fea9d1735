/- ModsOf: for every keyboard the program's answer is the reference's, and the keyboard stays as it was. No condition. -/
import Derived.Test.YticblminpeodjaaPFnExactModsOfx
import Derived.Test.YticblminpeodjaaPlain
namespace Go.Proofs.Yticblminpeodjaa.Pure
open Go Go.RowKit Go.Proofs.Yticblminpeodjaa.PFnExactModsOf Go.Proofs.YticblminpeodjaaW.PrintWords Go.Proofs.YticblminpeodjaaW.PrintLast Go.Proofs.YticblminpeodjaaPlain
set_option linter.unusedVariables false
set_option linter.unusedSimpArgs false

instance : DecidableEq S119 := fun a b => match a, b with
  | ⟨a0, a1⟩, ⟨b0, b1⟩ => decidable_of_iff (a0 = b0 ∧ a1 = b1) (by simp)
instance : DecidableEq S93 := fun a b => match a, b with
  | ⟨a0, a1⟩, ⟨b0, b1⟩ => decidable_of_iff (a0 = b0 ∧ a1 = b1) (by simp)
instance : DecidableEq S36 := fun a b => match a, b with
  | ⟨a0, a1, a2⟩, ⟨b0, b1, b2⟩ => decidable_of_iff (a0 = b0 ∧ a1 = b1 ∧ a2 = b2) (by simp)

theorem spec_l1In_eq (x a b : Int) : spec_l1In.f x a b = some (decide (a ≤ x ∧ x ≤ b)) := by
  unfold spec_l1In.f
  split <;> (congr 1; simp_all) <;> omega

theorem impl_in_eq (x a b : Int) : impl_in.f x a b = some (decide (a ≤ x ∧ x ≤ b)) := by
  unfold impl_in.f
  split <;> (congr 1; simp_all) <;> omega

theorem rdHolda {xs : List S119} {i : Nat} (h : i < xs.length) : rd_T119 xs (i : Int) = xs[i] := getD_nat h
def toHold (p : S119) : S93 := ⟨p.f0, p.f1⟩
theorem laws_toHoldS_eq {k : Nat} {xs : List S119} (hb : xs.length ≤ 8796093022208) (hk : xs.length < k) : laws_toHoldS.f k xs = some (xs.map toHold) := by
  unfold laws_toHoldS.f
  rw [if_pos (by omega), if_pos (by omega)]
  exact copy_loop laws_toHoldS.l0 toHold rd_T119 (fun a c => c (toHold a)) (fun xs i h => rdHolda h) (fun k xs ys i => by simp only [laws_toHoldS.l0, laws_toHold.f, Option.bind_some, toHold]) (fun a c => rfl) (xs := xs) (by omega) _ k 0 (List.replicate ((xs.length : Int)).toNat z93) (by simp) rfl (Nat.zero_le _) hk (by simp)
theorem rdHoldb {xs : List S93} {i : Nat} (h : i < xs.length) : rd_T93 xs (i : Int) = xs[i] := getD_nat h
theorem laws_eqHold_eq (a b : S93) : laws_eqHold.f a.f0 a.f1 b.f0 b.f1 = some (decide (a = b)) := by
  unfold laws_eqHold.f
  obtain ⟨a0, a1⟩ := a
  obtain ⟨b0, b1⟩ := b
  by_cases h1 : a0 = b0 <;> by_cases h2 : a1 = b1 <;> simp [h1, h2]
theorem laws_eqHoldS_eq {k : Nat} {xs ys : List S93} (hb : xs.length ≤ 4611686018427387904) (hk : xs.length < k) : laws_eqHoldS.f k xs ys = some (decide (xs = ys)) :=
  eq_fun (fun hl => eq_loop laws_eqHoldS.l0 rd_T93 (fun a b c => if a = b then c else some false) (fun xs i h => rdHoldb h) (fun k xs ys i => by simp only [laws_eqHoldS.l0, laws_eqHold_eq, Option.bind_some, decide_eq_true_eq]) (fun a b c => rfl) hl hb _ k 0 rfl (Nat.zero_le _) (by omega))
/-- What is left of a size, or -1. -/
theorem laws_szHoldS_eq {xs : List S119} {n : Int} (h : (xs.length : Int) ≤ 8796093022208) (hn : n ≤ 1048576) (h0 : -1 ≤ n) : laws_szHoldS.f xs n = some (if n - (xs.length : Int) < 0 then -1 else n - (xs.length : Int)) := by
  unfold laws_szHoldS.f
  rw [w64 (by omega)]
  split <;> rfl

theorem laws_eqKeyboard_eq {k : Nat} {xs ys} {a b : Bool} {x y : Int} (hb : xs.length ≤ 4611686018427387904) (hk : xs.length < k) : laws_eqKeyboard.f k xs a x ys b y = some (decide (xs = ys ∧ a = b ∧ x = y)) := by
  unfold laws_eqKeyboard.f
  rw [laws_eqHoldS_eq hb hk]
  simp only [Option.bind_some]
  by_cases h1 : xs = ys <;> by_cases h2 : a = b <;> by_cases h3 : x = y <;> simp [h1, h2, h3]
theorem laws_szKeyboard_eq {xs} {a : Bool} {x n : Int} (h : (List.length xs : Int) ≤ 8796093022208) (hn : n ≤ 1048576) (h0 : -1 ≤ n) : laws_szKeyboard.f xs a x n = some (if n - (List.length xs : Int) < 0 then -1 else n - (List.length xs : Int)) := by
  unfold laws_szKeyboard.f
  rw [laws_szHoldS_eq h hn h0]
  simp only [Option.bind_some]
  by_cases g : n - (List.length xs : Int) < 0
  · simp [g]
  · simp only [if_neg g]


theorem impl_isBit_eq' (x : Int) : impl_isBit.f x = some (decide (x = 1 ∨ x = 2 ∨ x = 4)) := by
  unfold impl_isBit.f
  by_cases h1 : x = 1 <;> by_cases h2 : x = 2 <;> simp [h1, h2] <;> rfl
/-- Is the i-th hold wrong? -/
def holdW (xs : List S93) (i : Int) : Prop := ¬ (1 ≤ (rd_T93 xs i).f0 ∧ (rd_T93 xs i).f0 ≤ 40) ∨ ¬ ((rd_T93 xs i).f1 = 1 ∨ (rd_T93 xs i).f1 = 2 ∨ (rd_T93 xs i).f1 = 4) ∨ (0 < i ∧ (rd_T93 xs i).f0 ≤ (rd_T93 xs (i - 1)).f0)
instance (xs : List S93) (i : Int) : Decidable (holdW xs i) := by unfold holdW; infer_instance
theorem spec_step (k : Nat) (i : Int) (xs : List S93) (a : Bool) (x : Int) (h0 : 0 ≤ i) (h1 : i < (xs.length : Int)) (hb : xs.length ≤ 4) : spec_l9Fault.l0 (k + 2) i xs a x = if holdW xs i then some 3 else spec_l9Fault.l0 k (i + 1) xs a x := by
  have e1 : wrap64 (i - 1) = i - 1 := w64 (by omega)
  have e2 : wrap64 (i + 1) = i + 1 := w64 (by omega)
  have e3 : i - 1 < (xs.length : Int) := by omega
  simp only [spec_l9Fault.l0, spec_l9Fault.j1, spec_l1In_eq, Option.bind_some, if_pos h0, if_pos h1, e1, e2, if_pos e3]
  unfold holdW
  by_cases g1 : 1 ≤ (rd_T93 xs i).f0 ∧ (rd_T93 xs i).f0 ≤ 40
  · by_cases g5 : 0 < i
    · have e4 : 0 ≤ i - 1 := by omega
      have e5 : 1 ≤ i := by omega
      by_cases g2 : (rd_T93 xs i).f1 = 1
      · by_cases g6 : (rd_T93 xs i).f0 ≤ (rd_T93 xs (i - 1)).f0 <;> simp [g1, g2, g5, g6, e4, e5]
      by_cases g3 : (rd_T93 xs i).f1 = 2
      · by_cases g6 : (rd_T93 xs i).f0 ≤ (rd_T93 xs (i - 1)).f0 <;> simp [g1, g3, g5, g6, e4, e5]
      by_cases g4 : (rd_T93 xs i).f1 = 4
      · by_cases g6 : (rd_T93 xs i).f0 ≤ (rd_T93 xs (i - 1)).f0 <;> simp [g1, g4, g5, g6, e4, e5]
      simp [g1, g2, g3, g4]
    · by_cases g2 : (rd_T93 xs i).f1 = 1
      · simp [g1, g2, g5]
      by_cases g3 : (rd_T93 xs i).f1 = 2
      · simp [g1, g3, g5]
      by_cases g4 : (rd_T93 xs i).f1 = 4
      · simp [g1, g4, g5]
      simp [g1, g2, g3, g4]
  · simp [g1]
theorem impl_step (k : Nat) (i : Int) (xs : List S93) (a : Bool) (x : Int) (h0 : 0 ≤ i) (h1 : i < (xs.length : Int)) (hb : xs.length ≤ 4) : impl_KeyboardFault.l0 (k + 2) xs (xs.length : Int) i xs a x = if holdW xs i then some 3 else impl_KeyboardFault.l0 k xs (xs.length : Int) (i + 1) xs a x := by
  have e1 : wrap64 (i - 1) = i - 1 := w64 (by omega)
  have e2 : wrap64 (i + 1) = i + 1 := w64 (by omega)
  have e3 : i - 1 < (xs.length : Int) := by omega
  simp only [impl_KeyboardFault.l0, impl_KeyboardFault.j1, impl_isKey.f, impl_in_eq, impl_isBit_eq', Option.bind_some, if_pos h0, if_pos h1, e1, e2, if_pos e3]
  unfold holdW
  by_cases g1 : 1 ≤ (rd_T93 xs i).f0 ∧ (rd_T93 xs i).f0 ≤ 40
  · by_cases g2 : (rd_T93 xs i).f1 = 1 ∨ (rd_T93 xs i).f1 = 2 ∨ (rd_T93 xs i).f1 = 4
    · by_cases g5 : 0 < i
      · have e4 : 0 ≤ i - 1 := by omega
        have e5 : 1 ≤ i := by omega
        by_cases g6 : (rd_T93 xs i).f0 ≤ (rd_T93 xs (i - 1)).f0 <;> simp [g1, g2, g5, g6, e4, e5]
      · simp [g1, g2, g5]
    · simp [g1, g2]
  · simp [g1]
theorem keyb_loop (xs : List S93) (a : Bool) (x : Int) (hb : xs.length ≤ 4) (d : Nat) : ∀ (k i : Nat), xs.length - i = d → i ≤ xs.length → 2 * d < k →
    ∃ r : Int, spec_l9Fault.l0 k (i : Int) xs a x = some r ∧ impl_KeyboardFault.l0 k xs (xs.length : Int) (i : Int) xs a x = some r := by
  induction d with
  | zero =>
    intro k i hd hi hk
    obtain ⟨k, rfl⟩ : ∃ m, k = m + 1 := ⟨k - 1, by omega⟩
    have hn : ¬ (i : Int) < (xs.length : Int) := by omega
    simp only [spec_l9Fault.l0, impl_KeyboardFault.l0, if_neg hn, spec_l1In_eq, impl_in_eq, Option.bind_some, impl_unless.f]
    by_cases h : 0 ≤ x ∧ x ≤ 3
    · exact ⟨0, by simp [h], by simp [h]⟩
    · exact ⟨3, by simp [h], by simp [h]⟩
  | succ d ih =>
    intro k i hd hi hk
    obtain ⟨k, rfl⟩ : ∃ m, k = m + 2 := ⟨k - 2, by omega⟩
    obtain ⟨r, h1, h2⟩ := ih k (i + 1) (by omega) (by omega) (by omega)
    rw [spec_step k i xs a x (by omega) (by omega) hb, impl_step k i xs a x (by omega) (by omega) hb]
    have e : ((i + 1 : Nat) : Int) = (i : Int) + 1 := by omega
    rw [e] at h1 h2
    by_cases hw : holdW xs (i : Int)
    · exact ⟨3, by rw [if_pos hw], by rw [if_pos hw]⟩
    · exact ⟨r, by rw [if_neg hw]; exact h1, by rw [if_neg hw]; exact h2⟩
theorem keyb_fault (k : Nat) (hk : 20 ≤ k) (xs : List S93) (a : Bool) (x : Int) : ∃ r : Int, spec_l9Fault.f k xs a x = some r ∧ impl_KeyboardFault.f k xs a x = some r ∧ (r = 0 → xs.length ≤ 4) := by
  unfold spec_l9Fault.f impl_KeyboardFault.f
  by_cases h : (xs.length : Int) > 4
  · rw [if_pos h, if_pos h]
    exact ⟨2, rfl, rfl, by omega⟩
  · rw [if_neg h, if_neg h]
    obtain ⟨r, h1, h2⟩ := keyb_loop xs a x (by omega) xs.length k 0 rfl (Nat.zero_le _) (by omega)
    exact ⟨r, h1, h2, fun _ => by omega⟩



theorem mods_loop (xs : List S93) (a : Bool) (x : Int) (hb : xs.length ≤ 1000) (d : Nat) : ∀ (k i : Nat) (v : Int), xs.length - i = d → i ≤ xs.length → d < k →
    ∃ r : Int, spec_l9Mods.l0 k v (i : Int) xs a x = some r ∧ impl_Keyboard_mods.l0 k v xs (xs.length : Int) (i : Int) = some r := by
  induction d with
  | zero =>
    intro k i v hd hi hk
    obtain ⟨k, rfl⟩ : ∃ m, k = m + 1 := ⟨k - 1, by omega⟩
    have hn : ¬ (i : Int) < (xs.length : Int) := by omega
    exact ⟨v, by simp only [spec_l9Mods.l0, if_neg hn], by simp only [impl_Keyboard_mods.l0, if_neg hn]⟩
  | succ d ih =>
    intro k i v hd hi hk
    obtain ⟨k, rfl⟩ : ∃ m, k = m + 1 := ⟨k - 1, by omega⟩
    have h1 : (i : Int) < (xs.length : Int) := by omega
    have h0 : (0 : Int) ≤ (i : Int) := by omega
    simp only [spec_l9Mods.l0, impl_Keyboard_mods.l0, if_pos h1, if_pos h0]
    rw [w64n (by omega)]
    exact ih k (i + 1) _ (by omega) (by omega) (by omega)
theorem mods_eq (k : Nat) (xs : List S93) (a : Bool) (x : Int) (hb : xs.length ≤ 1000) (hk : xs.length < k) : ∃ r : Int, spec_l9Mods.f k xs a x = some r ∧ impl_Keyboard_mods.f k xs a x = some r :=
  mods_loop xs a x hb xs.length k 0 0 rfl (Nat.zero_le _) hk


theorem laws_eqIntResult_eq (a b x y : Int) : laws_eqIntResult.f a x b y = some (decide (a = b ∧ x = y)) := by
  unfold laws_eqIntResult.f
  by_cases h1 : a = b <;> by_cases h2 : x = y <;> simp [h1, h2]

theorem laws_toKeyboard_eq {k : Nat} {xs} {a : Bool} {x : Int} (hb : xs.length ≤ 8796093022208) (hk : xs.length < k) : laws_toKeyboard.f k xs a x = some (xs.map toHold, a, x) := by
  unfold laws_toKeyboard.f
  rw [laws_toHoldS_eq hb hk]
  rfl

theorem FnExactModsOf : ∀ (x0 : S36), ((x0.f0.length ≤ maxLen ∧ x0.f0.length * 16 ≤ 140737488351232 ∧ ∀ y ∈ x0.f0, ((Lit.int .i64 y.f0).wf = true) ∧ ((Lit.int .i64 y.f1).wf = true)) ∧ (True) ∧ ((Lit.int .i64 x0.f2).wf = true)) → ∃ k, laws_FnExactModsOf.f k x0.f0 x0.f1 x0.f2 = some true := by
  intro x hx
  obtain ⟨⟨hm, hb, hw⟩, _, _⟩ := hx
  refine ⟨x.f0.length + 100, ?_⟩
  unfold laws_FnExactModsOf.f
  rw [laws_szKeyboard_eq (by omega) (by omega) (by omega)]
  simp only [Option.bind_some]
  by_cases hs : 1048576 - (x.f0.length : Int) < 0
  · rw [if_pos hs]; simp
  · rw [if_neg hs, if_neg hs]
    obtain ⟨r, h1, h2, h3⟩ := keyb_fault (x.f0.length + 100) (by omega) (x.f0.map toHold) x.f1 x.f2
    obtain ⟨q, g1, g2⟩ : ∃ q : Int × Int, spec_ModsOf.f (x.f0.length + 100) (x.f0.map toHold) x.f1 x.f2 = some q ∧ impl_ModsOf.f (x.f0.length + 100) (x.f0.map toHold) x.f1 x.f2 = some q := by
      unfold spec_ModsOf.f impl_ModsOf.f
      rw [h1, h2]
      simp only [Option.bind_some]
      by_cases e : r = 0
      · obtain ⟨m, m1, m2⟩ := mods_eq (x.f0.length + 100) (x.f0.map toHold) x.f1 x.f2 (by have := h3 e; omega) (by simp)
        rw [if_pos e, if_pos e, m1, m2]
        exact ⟨_, rfl, rfl⟩
      · rw [if_neg e, if_neg e]
        exact ⟨_, rfl, rfl⟩
    rw [laws_toKeyboard_eq (by omega) (by omega)]
    simp only [Option.bind_some]
    rw [g1, g2]
    simp only [Option.bind_some]
    rw [laws_eqIntResult_eq, laws_eqKeyboard_eq (by simp; omega) (by simp)]
    simp

end Go.Proofs.Yticblminpeodjaa.Pure
