/- SameVts: for every two terminals the program's answer is the reference's, and both stay as they were. No condition. -/
import Derived.Test.YtckgkblpbfckdaaPFnExactSameVtsx
import Derived.Test.YtckgkblpbfckdaaQgPlain
namespace Go.Proofs.Ytckgkblpbfckdaa.Pure
open Go Go.RowKit Go.Proofs.Ytckgkblpbfckdaa.PFnExactSameVts Go.Proofs.YtckgkblpbfckdaaW.PrintWords Go.Proofs.YtckgkblpbfckdaaW.PrintLast Go.Proofs.YtckgkblpbfckdaaPlain
set_option linter.unusedVariables false
set_option linter.unusedSimpArgs false

instance : DecidableEq S77 := fun a b => match a, b with
  | ⟨a0, a1⟩, ⟨b0, b1⟩ => decidable_of_iff (a0 = b0 ∧ a1 = b1) (by simp)
instance : DecidableEq S74 := fun a b => match a, b with
  | ⟨a0, a1⟩, ⟨b0, b1⟩ => decidable_of_iff (a0 = b0 ∧ a1 = b1) (by simp)
instance : DecidableEq S23 := fun a b => match a, b with
  | ⟨a0, a1, a2⟩, ⟨b0, b1, b2⟩ => decidable_of_iff (a0 = b0 ∧ a1 = b1 ∧ a2 = b2) (by simp)
instance : DecidableEq S26 := fun a b => match a, b with
  | ⟨a0, a1, a2, a3⟩, ⟨b0, b1, b2, b3⟩ => decidable_of_iff (a0 = b0 ∧ a1 = b1 ∧ a2 = b2 ∧ a3 = b3) (by simp)
instance : DecidableEq S29 := fun a b => match a, b with
  | ⟨a0, a1, a2, a3⟩, ⟨b0, b1, b2, b3⟩ => decidable_of_iff (a0 = b0 ∧ a1 = b1 ∧ a2 = b2 ∧ a3 = b3) (by simp)
instance : DecidableEq S32 := fun a b => match a, b with
  | ⟨a0, a1, a2, a3, a4, a5, a6, a7, a8, a9, a10, a11, a12, a13, a14, a15, a16⟩, ⟨b0, b1, b2, b3, b4, b5, b6, b7, b8, b9, b10, b11, b12, b13, b14, b15, b16⟩ => decidable_of_iff (a0 = b0 ∧ a1 = b1 ∧ a2 = b2 ∧ a3 = b3 ∧ a4 = b4 ∧ a5 = b5 ∧ a6 = b6 ∧ a7 = b7 ∧ a8 = b8 ∧ a9 = b9 ∧ a10 = b10 ∧ a11 = b11 ∧ a12 = b12 ∧ a13 = b13 ∧ a14 = b14 ∧ a15 = b15 ∧ a16 = b16) (by simp)
instance : DecidableEq S34 := fun a b => match a, b with
  | ⟨a0, a1, a2⟩, ⟨b0, b1, b2⟩ => decidable_of_iff (a0 = b0 ∧ a1 = b1 ∧ a2 = b2) (by simp)

theorem laws_eqInt64S_eq {k : Nat} {xs ys : List Int} (hb : xs.length ≤ 4611686018427387904) (hk : xs.length < k) : laws_eqInt64S.f k xs ys = some (decide (xs = ys)) :=
  eq_fun (fun hl => eq_loop laws_eqInt64S.l0 rd (fun a b c => if a = b then c else some false) (fun xs i h => rd_nat h) (fun k xs ys i => by simp only [laws_eqInt64S.l0]) (fun a b c => rfl) hl hb _ k 0 rfl (Nat.zero_le _) (by omega))

theorem laws_toInt64S_eq {k : Nat} {xs : List Int} (hb : xs.length ≤ 17592186044416) (hk : xs.length < k) : laws_toInt64S.f k xs = some xs := by
  unfold laws_toInt64S.f
  rw [if_pos (by omega), if_pos (by omega)]
  have h := copy_loop laws_toInt64S.l0 id rd (fun a c => c a) (fun xs i h => rd_nat h) (fun k xs ys i => by simp only [laws_toInt64S.l0]) (fun a c => rfl) (xs := xs) (by omega) _ k 0 (List.replicate ((xs.length : Int)).toNat 0) (by simp) rfl (Nat.zero_le _) hk (by simp)
  simpa using h

theorem rdCella {xs : List S77} {i : Nat} (h : i < xs.length) : rd_T77 xs (i : Int) = xs[i] := getD_nat h
def toCell (p : S77) : S74 := ⟨p.f0, p.f1⟩
theorem laws_toCellS_eq {k : Nat} {xs : List S77} (hb : xs.length ≤ 8796093022208) (hk : xs.length < k) : laws_toCellS.f k xs = some (xs.map toCell) := by
  unfold laws_toCellS.f
  rw [if_pos (by omega), if_pos (by omega)]
  exact copy_loop laws_toCellS.l0 toCell rd_T77 (fun a c => c (toCell a)) (fun xs i h => rdCella h) (fun k xs ys i => by simp only [laws_toCellS.l0, laws_toCell.f, Option.bind_some, toCell]) (fun a c => rfl) (xs := xs) (by omega) _ k 0 (List.replicate ((xs.length : Int)).toNat z74) (by simp) rfl (Nat.zero_le _) hk (by simp)
theorem rdCellb {xs : List S74} {i : Nat} (h : i < xs.length) : rd_T74 xs (i : Int) = xs[i] := getD_nat h
theorem laws_eqCell_eq (a b : S74) : laws_eqCell.f a.f0 a.f1 b.f0 b.f1 = some (decide (a = b)) := by
  unfold laws_eqCell.f
  obtain ⟨a0, a1⟩ := a
  obtain ⟨b0, b1⟩ := b
  by_cases h1 : a0 = b0 <;> by_cases h2 : a1 = b1 <;> simp [h1, h2]
theorem laws_eqCellS_eq {k : Nat} {xs ys : List S74} (hb : xs.length ≤ 4611686018427387904) (hk : xs.length < k) : laws_eqCellS.f k xs ys = some (decide (xs = ys)) :=
  eq_fun (fun hl => eq_loop laws_eqCellS.l0 rd_T74 (fun a b c => if a = b then c else some false) (fun xs i h => rdCellb h) (fun k xs ys i => by simp only [laws_eqCellS.l0, laws_eqCell_eq, Option.bind_some, decide_eq_true_eq]) (fun a b c => rfl) hl hb _ k 0 rfl (Nat.zero_le _) (by omega))
/-- What is left of a size, or -1. -/
theorem laws_szCellS_eq {xs : List S77} {n : Int} (h : (xs.length : Int) ≤ 8796093022208) (hn : n ≤ 1048576) (h0 : -1 ≤ n) : laws_szCellS.f xs n = some (if n - (xs.length : Int) < 0 then -1 else n - (xs.length : Int)) := by
  unfold laws_szCellS.f
  rw [w64 (by omega)]
  split <;> rfl

theorem laws_szInt64S_ex {xs : List Int} {n : Int} (h : (xs.length : Int) ≤ 17592186044416) (hn : n ≤ 1048576) (h0 : 0 ≤ n) : ∃ t : Int, laws_szInt64S.f xs n = some t ∧ (t = -1 ∨ (t = n - (xs.length : Int) ∧ 0 ≤ t)) := by
  unfold laws_szInt64S.f
  rw [w64 (by omega)]
  split
  · exact ⟨-1, rfl, .inl rfl⟩
  · exact ⟨_, rfl, .inr ⟨rfl, by omega⟩⟩

theorem laws_szParser_ex {a b : Int} {p : Bool} {xs : List Int} {n : Int} (h : (xs.length : Int) ≤ 17592186044416) (hn : n ≤ 1048576) (h0 : 0 ≤ n) : ∃ t : Int, laws_szParser.f a b p xs n = some t ∧ (t = -1 ∨ (t = n - (xs.length : Int) ∧ 0 ≤ t)) := by
  obtain ⟨t, h1, h2⟩ := laws_szInt64S_ex (xs := xs) h hn h0
  unfold laws_szParser.f
  rw [h1]
  simp only [Option.bind_some]
  rcases h2 with rfl | ⟨h2, h3⟩
  · exact ⟨-1, by simp, .inl rfl⟩
  · exact ⟨t, by rw [if_neg (by omega)], .inr ⟨h2, h3⟩⟩

theorem laws_toParser_eq {k : Nat} {a b : Int} {p : Bool} {xs : List Int} (hb : xs.length ≤ 17592186044416) (hk : xs.length < k) : laws_toParser.f k a b p xs = some (a, b, p, xs) := by
  unfold laws_toParser.f
  rw [laws_toInt64S_eq hb hk]
  rfl

theorem laws_eqParser_eq {k : Nat} {a b a' b' : Int} {p p' : Bool} {xs ys : List Int} (hb : xs.length ≤ 4611686018427387904) (hk : xs.length < k) : laws_eqParser.f k a b p xs a' b' p' ys = some (decide (a = a' ∧ b = b' ∧ p = p' ∧ xs = ys)) := by
  unfold laws_eqParser.f
  rw [laws_eqInt64S_eq hb hk]
  simp only [Option.bind_some]
  by_cases h1 : a = a' <;> by_cases h2 : b = b' <;> by_cases h3 : p = p' <;> by_cases h4 : xs = ys <;> simp [h1, h2, h3, h4]

theorem spec_l4Ints_eq {k : Nat} {xs ys : List Int} (hb : xs.length ≤ 4611686018427387904) (hk : xs.length < k) : spec_l4Ints.f k xs ys = some (decide (xs = ys)) :=
  eq_fun (fun hl => eq_loop spec_l4Ints.l0 rd (fun a b c => if a = b then c else some false) (fun xs i h => rd_nat h) (fun k xs ys i => by simp only [spec_l4Ints.l0]) (fun a b c => rfl) hl hb _ k 0 rfl (Nat.zero_le _) (by omega))

theorem slices_Equal_int64_int64_eq {k : Nat} {xs ys : List Int} (hb : xs.length ≤ 4611686018427387904) (hk : xs.length < k) : slices_Equal_int64_int64.f k xs ys = some (decide (xs = ys)) :=
  eq_fun (l := fun k xs ys i => slices_Equal_int64_int64.l0 k xs ys (xs.length : Int) i) (fun hl => eq_loop (fun k xs ys i => slices_Equal_int64_int64.l0 k xs ys (xs.length : Int) i) rd (fun a b c => if a = b then c else some false) (fun xs i h => rd_nat h) (fun k xs ys i => by
    by_cases h : i < (xs.length : Int)
    · simp only [slices_Equal_int64_int64.l0, if_pos h]
    · simp only [slices_Equal_int64_int64.l0, if_neg h]) (fun a b c => by
    rfl) hl hb _ k 0 rfl (Nat.zero_le _) (by omega))


theorem spec_l3SameCells_eq {k : Nat} {xs ys : List S74} (hb : xs.length ≤ 4611686018427387904) (hk : xs.length < k) : spec_l3SameCells.f k xs ys = some (decide (xs = ys)) :=
  eq_fun (fun hl => eq_loop spec_l3SameCells.l0 rd_T74 (fun a b c => if (!(a.f0 == b.f0) || (!(a.f1 == b.f1))) = true then some false else c) (fun xs i h => rdCellb h) (fun k xs ys i => by simp only [spec_l3SameCells.l0]) (fun a b c => by obtain ⟨a0, a1⟩ := a; obtain ⟨b0, b1⟩ := b; by_cases h1 : a0 = b0 <;> by_cases h2 : a1 = b1 <;> simp [h1, h2]) hl hb _ k 0 rfl (Nat.zero_le _) (by omega))



theorem impl_Cell_eq {k : Nat} {xs ys : List S74} (hb : xs.length ≤ 4611686018427387904) (hk : xs.length < k) : impl_Cell.f k xs ys = some (decide (xs = ys)) :=
  eq_fun (l := fun k xs ys i => impl_Cell.l0 k xs ys (xs.length : Int) i) (fun hl => eq_loop (fun k xs ys i => impl_Cell.l0 k xs ys (xs.length : Int) i) rd_T74 (fun a b c => if (!(a.f0 == b.f0) || (!(a.f1 == b.f1))) = true then some false else c) (fun xs i h => rdCellb h) (fun k xs ys i => by
    by_cases h : i < (xs.length : Int)
    · simp only [impl_Cell.l0, if_pos h]
    · simp only [impl_Cell.l0, if_neg h]) (fun a b c => by
    obtain ⟨a0, a1⟩ := a; obtain ⟨b0, b1⟩ := b; by_cases h1 : a0 = b0 <;> by_cases h2 : a1 = b1 <;> simp [h1, h2]) hl hb _ k 0 rfl (Nat.zero_le _) (by omega))


theorem laws_szGrid_ex {a b : Int} {xs ys} {n : Int} (h : (List.length xs : Int) ≤ 8796093022208) (h' : (List.length ys : Int) ≤ 8796093022208) (hn : n ≤ 1048576) (h0 : 0 ≤ n) : ∃ t : Int, laws_szGrid.f a b xs ys n = some t ∧ (t = -1 ∨ (t = n - (List.length xs : Int) - (List.length ys : Int) ∧ 0 ≤ t)) := by
  unfold laws_szGrid.f
  rw [laws_szCellS_eq h hn (by omega)]
  simp only [Option.bind_some]
  by_cases g : n - (List.length xs : Int) < 0
  · exact ⟨-1, by simp [g], .inl rfl⟩
  · rw [if_neg g, if_neg g, laws_szCellS_eq h' (by omega) (by omega)]
    simp only [Option.bind_some]
    by_cases g2 : n - (List.length xs : Int) - (List.length ys : Int) < 0
    · exact ⟨-1, by simp [g2], .inl rfl⟩
    · exact ⟨n - (List.length xs : Int) - (List.length ys : Int), by simp [g2], .inr ⟨rfl, by omega⟩⟩

theorem laws_toGrid_eq {k : Nat} {a b : Int} {xs ys} (hb : List.length xs ≤ 8796093022208) (hb' : List.length ys ≤ 8796093022208) (hk : List.length xs < k) (hk' : List.length ys < k) : laws_toGrid.f k a b xs ys = some (a, b, xs.map toCell, ys.map toCell) := by
  unfold laws_toGrid.f
  rw [laws_toCellS_eq hb hk, laws_toCellS_eq hb' hk']
  rfl

theorem laws_eqGrid_eq {k : Nat} {a b a' b' : Int} {xs ys xs' ys'} (hb : List.length xs ≤ 4611686018427387904) (hb' : List.length ys ≤ 4611686018427387904) (hk : List.length xs < k) (hk' : List.length ys < k) : laws_eqGrid.f k a b xs ys a' b' xs' ys' = some (decide (a = a' ∧ b = b' ∧ xs = xs' ∧ ys = ys')) := by
  unfold laws_eqGrid.f
  rw [laws_eqCellS_eq hb hk, laws_eqCellS_eq hb' hk']
  simp only [Option.bind_some]
  by_cases h1 : a = a' <;> by_cases h2 : b = b' <;> by_cases h3 : xs = xs' <;> by_cases h4 : ys = ys' <;> simp [h1, h2, h3, h4]

theorem laws_eqBoolS_eq {k : Nat} {xs ys : List Bool} (hb : xs.length ≤ 4611686018427387904) (hk : xs.length < k) : laws_eqBoolS.f k xs ys = some (decide (xs = ys)) :=
  eq_fun (fun hl => eq_loop laws_eqBoolS.l0 (rdOf false) (fun a b c => if (a != b) = true then some false else c) (fun xs i h => rdOf_nat h) (fun k xs ys i => by simp only [laws_eqBoolS.l0]) (fun a b c => by cases a <;> cases b <;> rfl) hl hb _ k 0 rfl (Nat.zero_le _) (by omega))

theorem spec_l5Bools_eq {k : Nat} {xs ys : List Bool} (hb : xs.length ≤ 4611686018427387904) (hk : xs.length < k) : spec_l5Bools.f k xs ys = some (decide (xs = ys)) :=
  eq_fun (fun hl => eq_loop spec_l5Bools.l0 (rdOf false) (fun a b c => if (a != b) = true then some false else c) (fun xs i h => rdOf_nat h) (fun k xs ys i => by simp only [spec_l5Bools.l0]) (fun a b c => by cases a <;> cases b <;> rfl) hl hb _ k 0 rfl (Nat.zero_le _) (by omega))

theorem slices_Equal_bool_bool_eq {k : Nat} {xs ys : List Bool} (hb : xs.length ≤ 4611686018427387904) (hk : xs.length < k) : slices_Equal_bool_bool.f k xs ys = some (decide (xs = ys)) :=
  eq_fun (l := fun k xs ys i => slices_Equal_bool_bool.l0 k xs ys (xs.length : Int) i) (fun hl => eq_loop (fun k xs ys i => slices_Equal_bool_bool.l0 k xs ys (xs.length : Int) i) (rdOf false) (fun a b c => if (a != b) = true then some false else c) (fun xs i h => rdOf_nat h) (fun k xs ys i => by
    by_cases h : i < (xs.length : Int)
    · simp only [slices_Equal_bool_bool.l0, if_pos h]
    · simp only [slices_Equal_bool_bool.l0, if_neg h]) (fun a b c => by
    cases a <;> cases b <;> rfl) hl hb _ k 0 rfl (Nat.zero_le _) (by omega))

theorem laws_szBoolS_ex {xs : List Bool} {n : Int} (h : (xs.length : Int) ≤ 140737488351232) (hn : n ≤ 1048576) (h0 : 0 ≤ n) : ∃ t : Int, laws_szBoolS.f xs n = some t ∧ (t = -1 ∨ (t = n - (xs.length : Int) ∧ 0 ≤ t)) := by
  unfold laws_szBoolS.f
  rw [w64 (by omega)]
  split
  · exact ⟨-1, rfl, .inl rfl⟩
  · exact ⟨_, rfl, .inr ⟨rfl, by omega⟩⟩

theorem laws_toBoolS_eq {k : Nat} {xs : List Bool} (hb : xs.length ≤ 140737488351232) (hk : xs.length < k) : laws_toBoolS.f k xs = some xs := by
  unfold laws_toBoolS.f
  rw [if_pos (by omega), if_pos (by omega)]
  have h := copy_loop laws_toBoolS.l0 id (rdOf false) (fun a c => c a) (fun xs i h => rdOf_nat h) (fun k xs ys i => by simp only [laws_toBoolS.l0]) (fun a c => rfl) (xs := xs) (by omega) _ k 0 (List.replicate ((xs.length : Int)).toNat false) (by simp) rfl (Nat.zero_le _) hk (by simp)
  simpa using h


theorem laws_szScreen_ex {x0 : Int} {x1 : Int} {x2 : List S77} {x3 : List S77} {x4 : Int} {x5 : Int} {x6 : Bool} {x7 : Int} {x8 : Int} {x9 : Int} {x10 : Bool} {x11 : Bool} {x12 : Bool} {x13 : List Bool} {x14 : Int} {x15 : Int} {x16 : Int} {x17 : List Int} {x18 : Int} {x19 : Int} {n : Int} (h2 : (x2.length : Int) ≤ 8796093022208) (h3 : (x3.length : Int) ≤ 8796093022208) (h13 : (x13.length : Int) ≤ 140737488351232) (h17 : (x17.length : Int) ≤ 17592186044416) (hn : n ≤ 1048576) (h0 : 0 ≤ n) :
    ∃ t : Int, laws_szScreen.f x0 x1 x2 x3 x4 x5 x6 x7 x8 x9 x10 x11 x12 x13 x14 x15 x16 x17 x18 x19 n = some t ∧ (t = -1 ∨ (t ≤ n ∧ 0 ≤ t)) := by
  unfold laws_szScreen.f
  obtain ⟨t, ht, h⟩ := laws_szGrid_ex (a := x0) (b := x1) (xs := x2) (ys := x3) (n := n) (by omega) (by omega) (by omega) (by omega)
  rw [ht]
  simp only [Option.bind_some]
  rcases h with rfl | ⟨h, ht0⟩
  · exact ⟨-1, by simp, .inl rfl⟩
  rw [if_neg (by omega)]
  obtain ⟨s, hs, g⟩ := laws_szBoolS_ex (xs := x13) (n := t) (by omega) (by omega) (by omega)
  rw [hs]
  simp only [Option.bind_some]
  rcases g with rfl | ⟨g, g0⟩
  · exact ⟨-1, by simp, .inl rfl⟩
  rw [if_neg (by omega)]
  obtain ⟨r, hr, f⟩ := laws_szInt64S_ex (xs := x17) (n := s) (by omega) (by omega) (by omega)
  rw [hr]
  simp only [Option.bind_some]
  rcases f with rfl | ⟨f, f0⟩
  · exact ⟨-1, by simp, .inl rfl⟩
  · exact ⟨r, by rw [if_neg (by omega)], .inr ⟨by omega, f0⟩⟩
theorem laws_toScreen_eq {k : Nat} {x0 : Int} {x1 : Int} {x2 : List S77} {x3 : List S77} {x4 : Int} {x5 : Int} {x6 : Bool} {x7 : Int} {x8 : Int} {x9 : Int} {x10 : Bool} {x11 : Bool} {x12 : Bool} {x13 : List Bool} {x14 : Int} {x15 : Int} {x16 : Int} {x17 : List Int} {x18 : Int} {x19 : Int} (h2 : x2.length ≤ 8796093022208) (h3 : x3.length ≤ 8796093022208) (h13 : x13.length ≤ 140737488351232) (h17 : x17.length ≤ 17592186044416) (k2 : x2.length < k) (k3 : x3.length < k) (k13 : x13.length < k) (k17 : x17.length < k) :
    laws_toScreen.f k x0 x1 x2 x3 x4 x5 x6 x7 x8 x9 x10 x11 x12 x13 x14 x15 x16 x17 x18 x19 = some (x0, x1, x2.map toCell, x3.map toCell, x4, x5, x6, x7, x8, x9, x10, x11, x12, x13, x14, x15, x16, x17, x18, x19) := by
  unfold laws_toScreen.f
  rw [laws_toGrid_eq (by omega) (by omega) (by omega) (by omega), laws_toBoolS_eq (by omega) (by omega), laws_toInt64S_eq (by omega) (by omega)]
  rfl
theorem laws_eqScreen_self {k : Nat} {x0 : Int} {x1 : Int} {x2 : List S74} {x3 : List S74} {x4 : Int} {x5 : Int} {x6 : Bool} {x7 : Int} {x8 : Int} {x9 : Int} {x10 : Bool} {x11 : Bool} {x12 : Bool} {x13 : List Bool} {x14 : Int} {x15 : Int} {x16 : Int} {x17 : List Int} {x18 : Int} {x19 : Int} (h2 : x2.length ≤ 8796093022208) (h3 : x3.length ≤ 8796093022208) (h13 : x13.length ≤ 140737488351232) (h17 : x17.length ≤ 17592186044416) (k2 : x2.length < k) (k3 : x3.length < k) (k13 : x13.length < k) (k17 : x17.length < k) :
    laws_eqScreen.f k x0 x1 x2 x3 x4 x5 x6 x7 x8 x9 x10 x11 x12 x13 x14 x15 x16 x17 x18 x19 x0 x1 x2 x3 x4 x5 x6 x7 x8 x9 x10 x11 x12 x13 x14 x15 x16 x17 x18 x19 = some true := by
  unfold laws_eqScreen.f
  rw [laws_eqGrid_eq (by omega) (by omega) (by omega) (by omega), laws_eqBoolS_eq (by omega) (by omega), laws_eqInt64S_eq (by omega) (by omega)]
  simp

theorem l5Shown_t0 (k : Nat) {x0 : Int} {x1 : Int} {x2 : List S74} {x3 : List S74} {x4 : Int} {x5 : Int} {x6 : Bool} {x7 : Int} {x8 : Int} {x9 : Int} {x10 : Bool} {x11 : Bool} {x12 : Bool} {x13 : List Bool} {x14 : Int} {x15 : Int} {x16 : Int} {x17 : List Int} {x18 : Int} {x19 : Int} {y0 : Int} {y1 : Int} {y2 : List S74} {y3 : List S74} {y4 : Int} {y5 : Int} {y6 : Bool} {y7 : Int} {y8 : Int} {y9 : Int} {y10 : Bool} {y11 : Bool} {y12 : Bool} {y13 : List Bool} {y14 : Int} {y15 : Int} {y16 : Int} {y17 : List Int} {y18 : Int} {y19 : Int} : spec_l5Shown.j0 (k + 1) true x0 x1 x2 x3 x4 x5 x6 x7 x8 x9 x10 x11 x12 x13 x14 x15 x16 x17 x18 x19 y0 y1 y2 y3 y4 y5 y6 y7 y8 y9 y10 y11 y12 y13 y14 y15 y16 y17 y18 y19 = some false := by
  rw [spec_l5Shown.j0, if_pos rfl]
theorem l5Shown_t1 (k : Nat) {x0 : Int} {x1 : Int} {x2 : List S74} {x3 : List S74} {x4 : Int} {x5 : Int} {x6 : Bool} {x7 : Int} {x8 : Int} {x9 : Int} {x10 : Bool} {x11 : Bool} {x12 : Bool} {x13 : List Bool} {x14 : Int} {x15 : Int} {x16 : Int} {x17 : List Int} {x18 : Int} {x19 : Int} {y0 : Int} {y1 : Int} {y2 : List S74} {y3 : List S74} {y4 : Int} {y5 : Int} {y6 : Bool} {y7 : Int} {y8 : Int} {y9 : Int} {y10 : Bool} {y11 : Bool} {y12 : Bool} {y13 : List Bool} {y14 : Int} {y15 : Int} {y16 : Int} {y17 : List Int} {y18 : Int} {y19 : Int} : spec_l5Shown.j1 (k + 1) true x0 x1 x2 x3 x4 x5 x6 x7 x8 x9 x10 x11 x12 x13 x14 x15 x16 x17 x18 x19 y0 y1 y2 y3 y4 y5 y6 y7 y8 y9 y10 y11 y12 y13 y14 y15 y16 y17 y18 y19 = some false := by
  rw [spec_l5Shown.j1, if_pos rfl]
theorem l5Shown_t2 (k : Nat) {x0 : Int} {x1 : Int} {x2 : List S74} {x3 : List S74} {x4 : Int} {x5 : Int} {x6 : Bool} {x7 : Int} {x8 : Int} {x9 : Int} {x10 : Bool} {x11 : Bool} {x12 : Bool} {x13 : List Bool} {x14 : Int} {x15 : Int} {x16 : Int} {x17 : List Int} {x18 : Int} {x19 : Int} {y0 : Int} {y1 : Int} {y2 : List S74} {y3 : List S74} {y4 : Int} {y5 : Int} {y6 : Bool} {y7 : Int} {y8 : Int} {y9 : Int} {y10 : Bool} {y11 : Bool} {y12 : Bool} {y13 : List Bool} {y14 : Int} {y15 : Int} {y16 : Int} {y17 : List Int} {y18 : Int} {y19 : Int} : spec_l5Shown.j2 (k + 1) true x0 x1 x2 x3 x4 x5 x6 x7 x8 x9 x10 x11 x12 x13 x14 x15 x16 x17 x18 x19 y0 y1 y2 y3 y4 y5 y6 y7 y8 y9 y10 y11 y12 y13 y14 y15 y16 y17 y18 y19 = some false := by
  rw [spec_l5Shown.j2, if_pos rfl]
theorem spec_l5Shown_eq {k : Nat} {x0 : Int} {x1 : Int} {x2 : List S74} {x3 : List S74} {x4 : Int} {x5 : Int} {x6 : Bool} {x7 : Int} {x8 : Int} {x9 : Int} {x10 : Bool} {x11 : Bool} {x12 : Bool} {x13 : List Bool} {x14 : Int} {x15 : Int} {x16 : Int} {x17 : List Int} {x18 : Int} {x19 : Int} {y0 : Int} {y1 : Int} {y2 : List S74} {y3 : List S74} {y4 : Int} {y5 : Int} {y6 : Bool} {y7 : Int} {y8 : Int} {y9 : Int} {y10 : Bool} {y11 : Bool} {y12 : Bool} {y13 : List Bool} {y14 : Int} {y15 : Int} {y16 : Int} {y17 : List Int} {y18 : Int} {y19 : Int} (h2 : x2.length ≤ 8796093022208) (h13 : x13.length ≤ 140737488351232) (h17 : x17.length ≤ 17592186044416) (k2 : x2.length + 3 < k) (k13 : x13.length + 3 < k) (k17 : x17.length + 3 < k) :
    spec_l5Shown.f k x0 x1 x2 x3 x4 x5 x6 x7 x8 x9 x10 x11 x12 x13 x14 x15 x16 x17 x18 x19 y0 y1 y2 y3 y4 y5 y6 y7 y8 y9 y10 y11 y12 y13 y14 y15 y16 y17 y18 y19 = some (decide (x0 = y0 ∧ x1 = y1 ∧ x2 = y2 ∧ x4 = y4 ∧ x5 = y5 ∧ x6 = y6 ∧ x7 = y7 ∧ x8 = y8 ∧ x9 = y9 ∧ x10 = y10 ∧ x11 = y11 ∧ x12 = y12 ∧ x18 = y18 ∧ x13 = y13 ∧ x17 = y17)) := by
  obtain ⟨k, rfl⟩ : ∃ m, k = m + 3 := ⟨k - 3, by omega⟩
  unfold spec_l5Shown.f
  by_cases e0 : x0 = y0
  rotate_left
  · rw [if_neg e0, l5Shown_t0]
    simp [e0]
  rw [if_pos e0]
  by_cases e1 : x1 = y1
  rotate_left
  · rw [if_neg e1, l5Shown_t0]
    simp [e1]
  rw [if_pos e1]
  rw [spec_l3SameCells_eq (by omega) (by omega)]
  simp only [Option.bind_some]
  by_cases e2 : x2 = y2
  rotate_left
  · rw [show (!decide (x2 = y2)) = true by simp [e2], l5Shown_t0]
    simp [e2]
  rw [show (!decide (x2 = y2)) = false by simp [e2], spec_l5Shown.j0, if_neg Bool.false_ne_true]
  by_cases e4 : x4 = y4
  rotate_left
  · rw [if_neg e4, l5Shown_t1]
    simp [e4]
  rw [if_pos e4]
  by_cases e5 : x5 = y5
  rotate_left
  · rw [if_neg e5, l5Shown_t1]
    simp [e5]
  rw [if_pos e5]
  by_cases e6 : x6 = y6
  rotate_left
  · rw [if_pos (by simp [e6]), l5Shown_t1]
    simp [e6]
  rw [if_neg (by simp [e6])]
  by_cases e7 : x7 = y7
  rotate_left
  · rw [if_neg e7, l5Shown_t1]
    simp [e7]
  rw [if_pos e7]
  by_cases e8 : x8 = y8
  rotate_left
  · rw [if_neg e8, l5Shown_t1]
    simp [e8]
  rw [if_pos e8]
  by_cases e9 : x9 = y9
  rotate_left
  · rw [show (x9 != y9) = true by simp [e9], l5Shown_t1]
    simp [e9]
  rw [show (x9 != y9) = false by simp [e9], spec_l5Shown.j1, if_neg Bool.false_ne_true]
  by_cases e10 : x10 = y10
  rotate_left
  · rw [if_pos (by simp [e10]), l5Shown_t2]
    simp [e10]
  rw [if_neg (by simp [e10])]
  by_cases e11 : x11 = y11
  rotate_left
  · rw [if_pos (by simp [e11]), l5Shown_t2]
    simp [e11]
  rw [if_neg (by simp [e11])]
  by_cases e12 : x12 = y12
  rotate_left
  · rw [if_pos (by simp [e12]), l5Shown_t2]
    simp [e12]
  rw [if_neg (by simp [e12])]
  by_cases e18 : x18 = y18
  rotate_left
  · rw [show (x18 != y18) = true by simp [e18], l5Shown_t2]
    simp [e18]
  rw [show (x18 != y18) = false by simp [e18], spec_l5Shown.j2, if_neg Bool.false_ne_true]
  rw [spec_l5Bools_eq (by omega) (by omega), spec_l4Ints_eq (by omega) (by omega)]
  simp only [Option.bind_some]
  by_cases e13 : x13 = y13 <;> by_cases e17 : x17 = y17 <;> simp [e0, e1, e2, e4, e5, e6, e7, e8, e9, e10, e11, e12, e18, e13, e17]
theorem sameShown_f1 (k : Nat) (p : Bool) {x0 : Int} {x1 : Int} {x2 : List S74} {x4 : Int} {x5 : Int} {x6 : Bool} {x7 : Int} {x8 : Int} {x9 : Int} {x10 : Bool} {x11 : Bool} {x12 : Bool} {x13 : List Bool} {x14 : Int} {x15 : Int} {x16 : Int} {x17 : List Int} {x18 : Int} {x19 : Int} {y0 : Int} {y1 : Int} {y2 : List S74} {y4 : Int} {y5 : Int} {y6 : Bool} {y7 : Int} {y8 : Int} {y9 : Int} {y10 : Bool} {y11 : Bool} {y12 : Bool} {y13 : List Bool} {y14 : Int} {y15 : Int} {y16 : Int} {y17 : List Int} {y18 : Int} {y19 : Int} : impl_SameShown.j1 (k + 1) p false x0 x1 x2 x4 x5 x6 x7 x8 x9 x10 x11 x12 x13 x14 x15 x16 x17 x18 x19 y0 y1 y2 y4 y5 y6 y7 y8 y9 y10 y11 y12 y13 y14 y15 y16 y17 y18 y19 = some false := by
  rw [impl_SameShown.j1, if_neg Bool.false_ne_true, ite_self]
theorem sameShown_f0 (k : Nat) {x0 : Int} {x1 : Int} {x2 : List S74} {x4 : Int} {x5 : Int} {x6 : Bool} {x7 : Int} {x8 : Int} {x9 : Int} {x10 : Bool} {x11 : Bool} {x12 : Bool} {x13 : List Bool} {x14 : Int} {x15 : Int} {x16 : Int} {x17 : List Int} {x18 : Int} {x19 : Int} {y0 : Int} {y1 : Int} {y2 : List S74} {y4 : Int} {y5 : Int} {y6 : Bool} {y7 : Int} {y8 : Int} {y9 : Int} {y10 : Bool} {y11 : Bool} {y12 : Bool} {y13 : List Bool} {y14 : Int} {y15 : Int} {y16 : Int} {y17 : List Int} {y18 : Int} {y19 : Int} : impl_SameShown.j0 (k + 2) false x0 x1 x2 x4 x5 x6 x7 x8 x9 x10 x11 x12 x13 x14 x15 x16 x17 x18 x19 y0 y1 y2 y4 y5 y6 y7 y8 y9 y10 y11 y12 y13 y14 y15 y16 y17 y18 y19 = some false := by
  have h (p : Bool) : impl_SameShown.j1 (k + 1) false p x0 x1 x2 x4 x5 x6 x7 x8 x9 x10 x11 x12 x13 x14 x15 x16 x17 x18 x19 y0 y1 y2 y4 y5 y6 y7 y8 y9 y10 y11 y12 y13 y14 y15 y16 y17 y18 y19 = some false := by rw [impl_SameShown.j1, if_neg Bool.false_ne_true]
  rw [impl_SameShown.j0]
  simp only [h, ite_self]
theorem impl_SameShown_eq {k : Nat} {x0 : Int} {x1 : Int} {x2 : List S74} {x3 : List S74} {x4 : Int} {x5 : Int} {x6 : Bool} {x7 : Int} {x8 : Int} {x9 : Int} {x10 : Bool} {x11 : Bool} {x12 : Bool} {x13 : List Bool} {x14 : Int} {x15 : Int} {x16 : Int} {x17 : List Int} {x18 : Int} {x19 : Int} {y0 : Int} {y1 : Int} {y2 : List S74} {y3 : List S74} {y4 : Int} {y5 : Int} {y6 : Bool} {y7 : Int} {y8 : Int} {y9 : Int} {y10 : Bool} {y11 : Bool} {y12 : Bool} {y13 : List Bool} {y14 : Int} {y15 : Int} {y16 : Int} {y17 : List Int} {y18 : Int} {y19 : Int} (h2 : x2.length ≤ 8796093022208) (h13 : x13.length ≤ 140737488351232) (h17 : x17.length ≤ 17592186044416) (k2 : x2.length + 3 < k) (k13 : x13.length + 3 < k) (k17 : x17.length + 3 < k) :
    impl_SameShown.f k x0 x1 x2 x3 x4 x5 x6 x7 x8 x9 x10 x11 x12 x13 x14 x15 x16 x17 x18 x19 y0 y1 y2 y3 y4 y5 y6 y7 y8 y9 y10 y11 y12 y13 y14 y15 y16 y17 y18 y19 = some (decide (x0 = y0 ∧ x1 = y1 ∧ x2 = y2 ∧ x4 = y4 ∧ x5 = y5 ∧ x6 = y6 ∧ x7 = y7 ∧ x8 = y8 ∧ x9 = y9 ∧ x10 = y10 ∧ x11 = y11 ∧ x12 = y12 ∧ x18 = y18 ∧ x13 = y13 ∧ x17 = y17)) := by
  obtain ⟨k, rfl⟩ : ∃ m, k = m + 3 := ⟨k - 3, by omega⟩
  unfold impl_SameShown.f
  by_cases e6 : x6 = y6
  rotate_left
  · rw [if_neg (by simp [e6]), sameShown_f0]
    simp [e6]
  rw [if_pos (by simp [e6])]
  by_cases e10 : x10 = y10
  rotate_left
  · rw [if_neg (by simp [e10]), sameShown_f0]
    simp [e10]
  rw [if_pos (by simp [e10])]
  by_cases e11 : x11 = y11
  rotate_left
  · rw [if_neg (by simp [e11]), sameShown_f0]
    simp [e11]
  rw [if_pos (by simp [e11])]
  by_cases e12 : x12 = y12
  rotate_left
  · rw [show (x12 == y12) = false by simp [e12], sameShown_f0]
    simp [e12]
  rw [show (x12 == y12) = true by simp [e12], impl_SameShown.j0]
  by_cases e4 : x4 = y4
  rotate_left
  · rw [if_neg e4, sameShown_f1]
    simp [e4]
  rw [if_pos e4]
  by_cases e5 : x5 = y5
  rotate_left
  · rw [if_neg e5, sameShown_f1]
    simp [e5]
  rw [if_pos e5]
  by_cases e7 : x7 = y7
  rotate_left
  · rw [if_neg e7, sameShown_f1]
    simp [e7]
  rw [if_pos e7]
  by_cases e8 : x8 = y8
  rotate_left
  · rw [if_neg e8, sameShown_f1]
    simp [e8]
  rw [if_pos e8]
  by_cases e9 : x9 = y9
  rotate_left
  · rw [if_neg e9, sameShown_f1]
    simp [e9]
  rw [if_pos e9]
  by_cases e18 : x18 = y18
  rotate_left
  · rw [show (x18 == y18) = false by simp [e18], sameShown_f1]
    simp [e18]
  rw [show (x18 == y18) = true by simp [e18], impl_SameShown.j1, if_pos rfl, if_pos rfl]
  unfold impl_SameGrids.f
  rw [impl_Cell_eq (by omega) (by omega), impl_Cell_eq (by simp) (by simp), slices_Equal_bool_bool_eq (by omega) (by omega), slices_Equal_int64_int64_eq (by omega) (by omega)]
  simp only [Option.bind_some]
  by_cases e0 : x0 = y0
  rotate_left
  · rw [if_neg e0]
    simp [e0]
  rw [if_pos e0]
  by_cases e1 : x1 = y1
  rotate_left
  · rw [if_neg e1]
    simp [e1]
  rw [if_pos e1]
  by_cases e2 : x2 = y2
  rotate_left
  · simp [e2]
  by_cases e13 : x13 = y13 <;> by_cases e17 : x17 = y17 <;> simp [e0, e1, e2, e4, e5, e6, e7, e8, e9, e10, e11, e12, e18, e13, e17]


theorem l4Same_eq {k : Nat} {x3 : Int} {x4 : Int} {x5 : Bool} {x6 : List Int} {y3 : Int} {y4 : Int} {y5 : Bool} {y6 : List Int} (h : x6.length ≤ 17592186044416) (hk : x6.length < k) : spec_l4Same.f k x3 x4 x5 x6 y3 y4 y5 y6 = some (decide (x3 = y3 ∧ x4 = y4 ∧ x5 = y5 ∧ x6 = y6)) := by
  unfold spec_l4Same.f
  rw [spec_l4Ints_eq (by omega) (by omega)]
  by_cases e1 : x3 = y3 <;> by_cases e2 : x4 = y4 <;> by_cases e3 : x5 = y5 <;> simp [e1, e2, e3]
theorem sameParsers_eq {k : Nat} {x3 : Int} {x4 : Int} {x5 : Bool} {x6 : List Int} {y3 : Int} {y4 : Int} {y5 : Bool} {y6 : List Int} (h : x6.length ≤ 17592186044416) (hk : x6.length < k) : impl_SameParsers.f k x3 x4 x5 x6 y3 y4 y5 y6 = some (decide (x3 = y3 ∧ x4 = y4 ∧ x5 = y5 ∧ x6 = y6)) := by
  unfold impl_SameParsers.f
  rw [slices_Equal_int64_int64_eq (by omega) (by omega)]
  by_cases e1 : x3 = y3 <;> by_cases e2 : x4 = y4 <;> by_cases e3 : x5 = y5 <;> simp [e1, e2, e3]
theorem l6_j0t (m : Nat) {x0 : Int} {x1 : Int} {x2 : Int} {x3 : Int} {x4 : Int} {x5 : Bool} {x6 : List Int} {x7 : Int} {x8 : Int} {x9 : List S74} {x10 : List S74} {x11 : Int} {x12 : Int} {x13 : Bool} {x14 : Int} {x15 : Int} {x16 : Int} {x17 : Bool} {x18 : Bool} {x19 : Bool} {x20 : List Bool} {x21 : Int} {x22 : Int} {x23 : Int} {x24 : List Int} {x25 : Int} {x26 : Int} {y0 : Int} {y1 : Int} {y2 : Int} {y3 : Int} {y4 : Int} {y5 : Bool} {y6 : List Int} {y7 : Int} {y8 : Int} {y9 : List S74} {y10 : List S74} {y11 : Int} {y12 : Int} {y13 : Bool} {y14 : Int} {y15 : Int} {y16 : Int} {y17 : Bool} {y18 : Bool} {y19 : Bool} {y20 : List Bool} {y21 : Int} {y22 : Int} {y23 : Int} {y24 : List Int} {y25 : Int} {y26 : Int} : spec_l6Same.j0 (m + 1) true x0 x1 x2 x3 x4 x5 x6 x7 x8 x9 x10 x11 x12 x13 x14 x15 x16 x17 x18 x19 x20 x21 x22 x23 x24 x25 x26 y0 y1 y2 y3 y4 y5 y6 y7 y8 y9 y10 y11 y12 y13 y14 y15 y16 y17 y18 y19 y20 y21 y22 y23 y24 y25 y26 = some false := by
  rw [spec_l6Same.j0, if_pos rfl]
theorem l6_j0f (m : Nat) {x0 : Int} {x1 : Int} {x2 : Int} {x3 : Int} {x4 : Int} {x5 : Bool} {x6 : List Int} {x7 : Int} {x8 : Int} {x9 : List S74} {x10 : List S74} {x11 : Int} {x12 : Int} {x13 : Bool} {x14 : Int} {x15 : Int} {x16 : Int} {x17 : Bool} {x18 : Bool} {x19 : Bool} {x20 : List Bool} {x21 : Int} {x22 : Int} {x23 : Int} {x24 : List Int} {x25 : Int} {x26 : Int} {y0 : Int} {y1 : Int} {y2 : Int} {y3 : Int} {y4 : Int} {y5 : Bool} {y6 : List Int} {y7 : Int} {y8 : Int} {y9 : List S74} {y10 : List S74} {y11 : Int} {y12 : Int} {y13 : Bool} {y14 : Int} {y15 : Int} {y16 : Int} {y17 : Bool} {y18 : Bool} {y19 : Bool} {y20 : List Bool} {y21 : Int} {y22 : Int} {y23 : Int} {y24 : List Int} {y25 : Int} {y26 : Int} : spec_l6Same.j0 (m + 1) false x0 x1 x2 x3 x4 x5 x6 x7 x8 x9 x10 x11 x12 x13 x14 x15 x16 x17 x18 x19 x20 x21 x22 x23 x24 x25 x26 y0 y1 y2 y3 y4 y5 y6 y7 y8 y9 y10 y11 y12 y13 y14 y15 y16 y17 y18 y19 y20 y21 y22 y23 y24 y25 y26 = some (decide (x21 = y21 ∧ x22 = y22 ∧ x23 = y23 ∧ x26 = y26)) := by
  rw [spec_l6Same.j0, if_neg Bool.false_ne_true]
  by_cases e1 : x21 = y21
  · rw [if_pos e1]
    by_cases e2 : x22 = y22
    · rw [if_pos e2]
      by_cases e3 : x23 = y23
      · rw [if_pos e3]
        by_cases e4 : x26 = y26 <;> simp [e1, e2, e3, e4]
      · rw [if_neg e3]
        simp [e3]
    · rw [if_neg e2]
      simp [e2]
  · rw [if_neg e1]
    simp [e1]
theorem l6Same_eq {k : Nat} {x0 : Int} {x1 : Int} {x2 : Int} {x3 : Int} {x4 : Int} {x5 : Bool} {x6 : List Int} {x7 : Int} {x8 : Int} {x9 : List S74} {x10 : List S74} {x11 : Int} {x12 : Int} {x13 : Bool} {x14 : Int} {x15 : Int} {x16 : Int} {x17 : Bool} {x18 : Bool} {x19 : Bool} {x20 : List Bool} {x21 : Int} {x22 : Int} {x23 : Int} {x24 : List Int} {x25 : Int} {x26 : Int} {y0 : Int} {y1 : Int} {y2 : Int} {y3 : Int} {y4 : Int} {y5 : Bool} {y6 : List Int} {y7 : Int} {y8 : Int} {y9 : List S74} {y10 : List S74} {y11 : Int} {y12 : Int} {y13 : Bool} {y14 : Int} {y15 : Int} {y16 : Int} {y17 : Bool} {y18 : Bool} {y19 : Bool} {y20 : List Bool} {y21 : Int} {y22 : Int} {y23 : Int} {y24 : List Int} {y25 : Int} {y26 : Int} (xh6 : x6.length ≤ 17592186044416) (xk6 : x6.length + 3 < k) (xh9 : x9.length ≤ 8796093022208) (xk9 : x9.length + 3 < k) (xh10 : x10.length ≤ 8796093022208) (xk10 : x10.length + 3 < k) (xh20 : x20.length ≤ 140737488351232) (xk20 : x20.length + 3 < k) (xh24 : x24.length ≤ 17592186044416) (xk24 : x24.length + 3 < k) :
    spec_l6Same.f k x0 x1 x2 x3 x4 x5 x6 x7 x8 x9 x10 x11 x12 x13 x14 x15 x16 x17 x18 x19 x20 x21 x22 x23 x24 x25 x26 y0 y1 y2 y3 y4 y5 y6 y7 y8 y9 y10 y11 y12 y13 y14 y15 y16 y17 y18 y19 y20 y21 y22 y23 y24 y25 y26 = some (decide ((x0 = y0 ∧ x1 = y1 ∧ x2 = y2) ∧ (x3 = y3 ∧ x4 = y4 ∧ x5 = y5 ∧ x6 = y6) ∧ (x7 = y7 ∧ x8 = y8 ∧ x9 = y9 ∧ x11 = y11 ∧ x12 = y12 ∧ x13 = y13 ∧ x14 = y14 ∧ x15 = y15 ∧ x16 = y16 ∧ x17 = y17 ∧ x18 = y18 ∧ x19 = y19 ∧ x25 = y25 ∧ x20 = y20 ∧ x24 = y24) ∧ x10 = y10 ∧ (x21 = y21 ∧ x22 = y22 ∧ x23 = y23 ∧ x26 = y26))) := by
  obtain ⟨m, rfl⟩ : ∃ m, k = m + 1 := ⟨k - 1, by omega⟩
  unfold spec_l6Same.f
  rw [l4Same_eq (by omega) (by omega), spec_l5Shown_eq (by omega) (by omega) (by omega) (by omega) (by omega) (by omega), spec_l3SameCells_eq (by omega) (by omega), l6_j0t]
  simp only [Option.bind_some]
  have hd : (!(x0 == y0) || (!(x1 == y1) || (!(x2 == y2)))) = !decide (x0 = y0 ∧ x1 = y1 ∧ x2 = y2) := by
    by_cases e1 : x0 = y0 <;> by_cases e2 : x1 = y1 <;> by_cases e3 : x2 = y2 <;> simp [e1, e2, e3]
  rw [hd]
  by_cases d : (x0 = y0 ∧ x1 = y1 ∧ x2 = y2)
  rotate_left
  · rw [if_pos (by rw [decide_eq_false d]; rfl), decide_eq_false (fun q => d q.1)]
  rw [if_neg (by rw [decide_eq_true d]; exact Bool.false_ne_true)]
  by_cases p : (x3 = y3 ∧ x4 = y4 ∧ x5 = y5 ∧ x6 = y6)
  rotate_left
  · rw [if_neg (by rw [decide_eq_false p]; exact Bool.false_ne_true), decide_eq_false (fun q => p q.2.1)]
  rw [if_pos (decide_eq_true p)]
  by_cases s : (x7 = y7 ∧ x8 = y8 ∧ x9 = y9 ∧ x11 = y11 ∧ x12 = y12 ∧ x13 = y13 ∧ x14 = y14 ∧ x15 = y15 ∧ x16 = y16 ∧ x17 = y17 ∧ x18 = y18 ∧ x19 = y19 ∧ x25 = y25 ∧ x20 = y20 ∧ x24 = y24)
  rotate_left
  · rw [if_neg (by rw [decide_eq_false s]; exact Bool.false_ne_true), decide_eq_false (fun q => s q.2.2.1)]
  rw [if_pos (decide_eq_true s)]
  by_cases c : x10 = y10
  · rw [show (!decide (x10 = y10)) = false by rw [decide_eq_true c]; rfl, l6_j0f]
    congr 1
    exact decide_eq_decide.mpr ⟨fun q => ⟨d, p, s, c, q⟩, fun q => q.2.2.2.2⟩
  · rw [show (!decide (x10 = y10)) = true by rw [decide_eq_false c]; rfl, l6_j0t, decide_eq_false (fun q => c q.2.2.2.1)]
theorem sameGrids_eq {k : Nat} {x7 : Int} {x8 : Int} {x9 : List S74} {x10 : List S74} {y7 : Int} {y8 : Int} {y9 : List S74} {y10 : List S74} (xh9 : x9.length ≤ 8796093022208) (xk9 : x9.length < k) (xh10 : x10.length ≤ 8796093022208) (xk10 : x10.length < k) :
    impl_SameGrids.f k x7 x8 x9 x10 y7 y8 y9 y10 = some (decide (x7 = y7 ∧ x8 = y8 ∧ x9 = y9 ∧ x10 = y10)) := by
  unfold impl_SameGrids.f
  rw [impl_Cell_eq (by omega) (by omega), impl_Cell_eq (by omega) (by omega)]
  by_cases e1 : x7 = y7 <;> by_cases e2 : x8 = y8 <;> by_cases e3 : x9 = y9 <;> simp [e1, e2, e3]
theorem sameScreens_eq {k : Nat} {x7 : Int} {x8 : Int} {x9 : List S74} {x10 : List S74} {x11 : Int} {x12 : Int} {x13 : Bool} {x14 : Int} {x15 : Int} {x16 : Int} {x17 : Bool} {x18 : Bool} {x19 : Bool} {x20 : List Bool} {x21 : Int} {x22 : Int} {x23 : Int} {x24 : List Int} {x25 : Int} {x26 : Int} {y7 : Int} {y8 : Int} {y9 : List S74} {y10 : List S74} {y11 : Int} {y12 : Int} {y13 : Bool} {y14 : Int} {y15 : Int} {y16 : Int} {y17 : Bool} {y18 : Bool} {y19 : Bool} {y20 : List Bool} {y21 : Int} {y22 : Int} {y23 : Int} {y24 : List Int} {y25 : Int} {y26 : Int} (xh9 : x9.length ≤ 8796093022208) (xk9 : x9.length + 3 < k) (xh10 : x10.length ≤ 8796093022208) (xk10 : x10.length + 3 < k) (xh20 : x20.length ≤ 140737488351232) (xk20 : x20.length + 3 < k) (xh24 : x24.length ≤ 17592186044416) (xk24 : x24.length + 3 < k) :
    impl_sameScreens.f k x7 x8 x9 x10 x11 x12 x13 x14 x15 x16 x17 x18 x19 x20 x21 x22 x23 x24 x25 x26 y7 y8 y9 y10 y11 y12 y13 y14 y15 y16 y17 y18 y19 y20 y21 y22 y23 y24 y25 y26 = some (decide ((x7 = y7 ∧ x8 = y8 ∧ x9 = y9 ∧ x11 = y11 ∧ x12 = y12 ∧ x13 = y13 ∧ x14 = y14 ∧ x15 = y15 ∧ x16 = y16 ∧ x17 = y17 ∧ x18 = y18 ∧ x19 = y19 ∧ x25 = y25 ∧ x20 = y20 ∧ x24 = y24) ∧ x10 = y10 ∧ (x21 = y21 ∧ x22 = y22 ∧ x23 = y23 ∧ x26 = y26))) := by
  unfold impl_sameScreens.f
  rw [impl_SameShown_eq (by omega) (by omega) (by omega) (by omega) (by omega) (by omega), sameGrids_eq (by omega) (by omega) (by omega) (by omega)]
  simp only [Option.bind_some]
  by_cases s : (x7 = y7 ∧ x8 = y8 ∧ x9 = y9 ∧ x11 = y11 ∧ x12 = y12 ∧ x13 = y13 ∧ x14 = y14 ∧ x15 = y15 ∧ x16 = y16 ∧ x17 = y17 ∧ x18 = y18 ∧ x19 = y19 ∧ x25 = y25 ∧ x20 = y20 ∧ x24 = y24)
  rotate_left
  · rw [if_neg (by rw [decide_eq_false s]; exact Bool.false_ne_true), decide_eq_false (fun q => s q.1)]
  rw [if_pos (decide_eq_true s)]
  by_cases c : x10 = y10
  rotate_left
  · rw [if_neg (by rw [decide_eq_false (fun q => c q.2.2.2)]; exact Bool.false_ne_true), decide_eq_false (fun q => c q.2.1)]
  rw [if_pos (decide_eq_true ⟨s.1, s.2.1, s.2.2.1, c⟩)]
  by_cases e1 : x21 = y21
  rotate_left
  · rw [if_neg e1, decide_eq_false (fun q => e1 q.2.2.1)]
  rw [if_pos e1]
  by_cases e2 : x22 = y22
  rotate_left
  · rw [if_neg e2, decide_eq_false (fun q => e2 q.2.2.2.1)]
  rw [if_pos e2]
  by_cases e3 : x23 = y23
  rotate_left
  · rw [if_neg e3, decide_eq_false (fun q => e3 q.2.2.2.2.1)]
  rw [if_pos e3]
  congr 1
  by_cases e4 : x26 = y26
  · rw [decide_eq_true (show _ ∧ _ from ⟨s, c, e1, e2, e3, e4⟩)]
    simp [e4]
  · rw [decide_eq_false (fun q => e4 q.2.2.2.2.2)]
    simp [e4]
theorem sameVts_eq {k : Nat} {x0 : Int} {x1 : Int} {x2 : Int} {x3 : Int} {x4 : Int} {x5 : Bool} {x6 : List Int} {x7 : Int} {x8 : Int} {x9 : List S74} {x10 : List S74} {x11 : Int} {x12 : Int} {x13 : Bool} {x14 : Int} {x15 : Int} {x16 : Int} {x17 : Bool} {x18 : Bool} {x19 : Bool} {x20 : List Bool} {x21 : Int} {x22 : Int} {x23 : Int} {x24 : List Int} {x25 : Int} {x26 : Int} {y0 : Int} {y1 : Int} {y2 : Int} {y3 : Int} {y4 : Int} {y5 : Bool} {y6 : List Int} {y7 : Int} {y8 : Int} {y9 : List S74} {y10 : List S74} {y11 : Int} {y12 : Int} {y13 : Bool} {y14 : Int} {y15 : Int} {y16 : Int} {y17 : Bool} {y18 : Bool} {y19 : Bool} {y20 : List Bool} {y21 : Int} {y22 : Int} {y23 : Int} {y24 : List Int} {y25 : Int} {y26 : Int} (xh6 : x6.length ≤ 17592186044416) (xk6 : x6.length + 3 < k) (xh9 : x9.length ≤ 8796093022208) (xk9 : x9.length + 3 < k) (xh10 : x10.length ≤ 8796093022208) (xk10 : x10.length + 3 < k) (xh20 : x20.length ≤ 140737488351232) (xk20 : x20.length + 3 < k) (xh24 : x24.length ≤ 17592186044416) (xk24 : x24.length + 3 < k) :
    impl_SameVts.f k x0 x1 x2 x3 x4 x5 x6 x7 x8 x9 x10 x11 x12 x13 x14 x15 x16 x17 x18 x19 x20 x21 x22 x23 x24 x25 x26 y0 y1 y2 y3 y4 y5 y6 y7 y8 y9 y10 y11 y12 y13 y14 y15 y16 y17 y18 y19 y20 y21 y22 y23 y24 y25 y26 = some (decide ((x0 = y0 ∧ x1 = y1 ∧ x2 = y2) ∧ (x3 = y3 ∧ x4 = y4 ∧ x5 = y5 ∧ x6 = y6) ∧ (x7 = y7 ∧ x8 = y8 ∧ x9 = y9 ∧ x11 = y11 ∧ x12 = y12 ∧ x13 = y13 ∧ x14 = y14 ∧ x15 = y15 ∧ x16 = y16 ∧ x17 = y17 ∧ x18 = y18 ∧ x19 = y19 ∧ x25 = y25 ∧ x20 = y20 ∧ x24 = y24) ∧ x10 = y10 ∧ (x21 = y21 ∧ x22 = y22 ∧ x23 = y23 ∧ x26 = y26))) := by
  unfold impl_SameVts.f
  rw [sameParsers_eq (by omega) (by omega), sameScreens_eq (by omega) (by omega) (by omega) (by omega) (by omega) (by omega) (by omega) (by omega)]
  simp only [Option.bind_some]
  have hd : (x0 == y0 && (x1 == y1 && (x2 == y2))) = decide (x0 = y0 ∧ x1 = y1 ∧ x2 = y2) := by
    by_cases e1 : x0 = y0 <;> by_cases e2 : x1 = y1 <;> by_cases e3 : x2 = y2 <;> simp [e1, e2, e3]
  rw [hd]
  by_cases d : (x0 = y0 ∧ x1 = y1 ∧ x2 = y2)
  rotate_left
  · rw [if_neg (by rw [decide_eq_false d]; exact Bool.false_ne_true), decide_eq_false (fun q => d q.1)]
  rw [if_pos (decide_eq_true d)]
  by_cases p : (x3 = y3 ∧ x4 = y4 ∧ x5 = y5 ∧ x6 = y6)
  rotate_left
  · rw [if_neg (by rw [decide_eq_false p]; exact Bool.false_ne_true), decide_eq_false (fun q => p q.2.1)]
  rw [if_pos (decide_eq_true p)]
  congr 1
  exact decide_eq_decide.mpr ⟨fun q => ⟨d, p, q⟩, fun q => q.2.2⟩
theorem szVt_ex {x0 : Int} {x1 : Int} {x2 : Int} {x3 : Int} {x4 : Int} {x5 : Bool} {x6 : List Int} {x7 : Int} {x8 : Int} {x9 : List S77} {x10 : List S77} {x11 : Int} {x12 : Int} {x13 : Bool} {x14 : Int} {x15 : Int} {x16 : Int} {x17 : Bool} {x18 : Bool} {x19 : Bool} {x20 : List Bool} {x21 : Int} {x22 : Int} {x23 : Int} {x24 : List Int} {x25 : Int} {x26 : Int} {n : Int} (h6 : (x6.length : Int) ≤ 17592186044416) (h9 : (x9.length : Int) ≤ 8796093022208) (h10 : (x10.length : Int) ≤ 8796093022208) (h20 : (x20.length : Int) ≤ 140737488351232) (h24 : (x24.length : Int) ≤ 17592186044416) (hn : n ≤ 1048576) (h0 : 0 ≤ n) :
    ∃ t : Int, laws_szVt.f x0 x1 x2 x3 x4 x5 x6 x7 x8 x9 x10 x11 x12 x13 x14 x15 x16 x17 x18 x19 x20 x21 x22 x23 x24 x25 x26 n = some t ∧ (t = -1 ∨ (t ≤ n ∧ 0 ≤ t)) := by
  unfold laws_szVt.f
  obtain ⟨t, ht, h⟩ := laws_szParser_ex (a := x3) (b := x4) (p := x5) (xs := x6) (n := n) (by omega) (by omega) (by omega)
  rw [ht]
  simp only [Option.bind_some]
  rcases h with rfl | ⟨h, hz⟩
  · exact ⟨-1, by simp, Or.inl rfl⟩
  rw [if_neg (by omega)]
  obtain ⟨s, hs, g⟩ := laws_szScreen_ex (x0 := x7) (x1 := x8) (x2 := x9) (x3 := x10) (x4 := x11) (x5 := x12) (x6 := x13) (x7 := x14) (x8 := x15) (x9 := x16) (x10 := x17) (x11 := x18) (x12 := x19) (x13 := x20) (x14 := x21) (x15 := x22) (x16 := x23) (x17 := x24) (x18 := x25) (x19 := x26) (n := t) (by omega) (by omega) (by omega) (by omega) (by omega) (by omega)
  rw [hs]
  simp only [Option.bind_some]
  rcases g with rfl | ⟨g, gz⟩
  · exact ⟨-1, by simp, Or.inl rfl⟩
  rw [if_neg (by omega)]
  exact ⟨s, rfl, Or.inr ⟨by omega, gz⟩⟩
theorem toVt_eq {k : Nat} {x0 : Int} {x1 : Int} {x2 : Int} {x3 : Int} {x4 : Int} {x5 : Bool} {x6 : List Int} {x7 : Int} {x8 : Int} {x9 : List S77} {x10 : List S77} {x11 : Int} {x12 : Int} {x13 : Bool} {x14 : Int} {x15 : Int} {x16 : Int} {x17 : Bool} {x18 : Bool} {x19 : Bool} {x20 : List Bool} {x21 : Int} {x22 : Int} {x23 : Int} {x24 : List Int} {x25 : Int} {x26 : Int} (h6 : x6.length ≤ 17592186044416) (h9 : x9.length ≤ 8796093022208) (h10 : x10.length ≤ 8796093022208) (h20 : x20.length ≤ 140737488351232) (h24 : x24.length ≤ 17592186044416) (k6 : x6.length < k) (k9 : x9.length < k) (k10 : x10.length < k) (k20 : x20.length < k) (k24 : x24.length < k) :
    laws_toVt.f k x0 x1 x2 x3 x4 x5 x6 x7 x8 x9 x10 x11 x12 x13 x14 x15 x16 x17 x18 x19 x20 x21 x22 x23 x24 x25 x26 = some (x0, x1, x2, x3, x4, x5, x6, x7, x8, x9.map toCell, x10.map toCell, x11, x12, x13, x14, x15, x16, x17, x18, x19, x20, x21, x22, x23, x24, x25, x26) := by
  unfold laws_toVt.f laws_toDecoder.f
  rw [laws_toParser_eq (by omega) (by omega), laws_toScreen_eq (by omega) (by omega) (by omega) (by omega) (by omega) (by omega) (by omega) (by omega)]
  rfl
theorem eqVt_self {k : Nat} {x0 : Int} {x1 : Int} {x2 : Int} {x3 : Int} {x4 : Int} {x5 : Bool} {x6 : List Int} {x7 : Int} {x8 : Int} {x9 : List S74} {x10 : List S74} {x11 : Int} {x12 : Int} {x13 : Bool} {x14 : Int} {x15 : Int} {x16 : Int} {x17 : Bool} {x18 : Bool} {x19 : Bool} {x20 : List Bool} {x21 : Int} {x22 : Int} {x23 : Int} {x24 : List Int} {x25 : Int} {x26 : Int} (h6 : x6.length ≤ 17592186044416) (h9 : x9.length ≤ 8796093022208) (h10 : x10.length ≤ 8796093022208) (h20 : x20.length ≤ 140737488351232) (h24 : x24.length ≤ 17592186044416) (k6 : x6.length < k) (k9 : x9.length < k) (k10 : x10.length < k) (k20 : x20.length < k) (k24 : x24.length < k) :
    laws_eqVt.f k x0 x1 x2 x3 x4 x5 x6 x7 x8 x9 x10 x11 x12 x13 x14 x15 x16 x17 x18 x19 x20 x21 x22 x23 x24 x25 x26 x0 x1 x2 x3 x4 x5 x6 x7 x8 x9 x10 x11 x12 x13 x14 x15 x16 x17 x18 x19 x20 x21 x22 x23 x24 x25 x26 = some true := by
  unfold laws_eqVt.f laws_eqDecoder.f
  rw [if_pos rfl, if_pos rfl, if_pos rfl, laws_eqParser_eq (by omega) (by omega), laws_eqScreen_self (by omega) (by omega) (by omega) (by omega) (by omega) (by omega) (by omega) (by omega)]
  simp
theorem FnExactSameVts : ∀ (x0 : S34) (x1 : S34), ((((Lit.int .i64 x0.f0.f0).wf = true) ∧ ((Lit.int .i64 x0.f0.f1).wf = true) ∧ ((Lit.int .i64 x0.f0.f2).wf = true)) ∧ (((Lit.int .i64 x0.f1.f0).wf = true) ∧ ((Lit.int .i64 x0.f1.f1).wf = true) ∧ (True) ∧ (x0.f1.f3.length ≤ maxLen ∧ x0.f1.f3.length * 8 ≤ 140737488351232 ∧ ∀ y ∈ x0.f1.f3, (Lit.int .i64 y).wf = true)) ∧ ((((Lit.int .i64 x0.f2.f0.f0).wf = true) ∧ ((Lit.int .i64 x0.f2.f0.f1).wf = true) ∧ (x0.f2.f0.f2.length ≤ maxLen ∧ x0.f2.f0.f2.length * 16 ≤ 140737488351232 ∧ ∀ y ∈ x0.f2.f0.f2, ((Lit.int .i64 y.f0).wf = true) ∧ ((Lit.int .i64 y.f1).wf = true)) ∧ (x0.f2.f0.f3.length ≤ maxLen ∧ x0.f2.f0.f3.length * 16 ≤ 140737488351232 ∧ ∀ y ∈ x0.f2.f0.f3, ((Lit.int .i64 y.f0).wf = true) ∧ ((Lit.int .i64 y.f1).wf = true))) ∧ ((Lit.int .i64 x0.f2.f1).wf = true) ∧ ((Lit.int .i64 x0.f2.f2).wf = true) ∧ (True) ∧ ((Lit.int .i64 x0.f2.f4).wf = true) ∧ ((Lit.int .i64 x0.f2.f5).wf = true) ∧ ((Lit.int .i64 x0.f2.f6).wf = true) ∧ (True) ∧ (True) ∧ (True) ∧ (x0.f2.f10.length ≤ maxLen ∧ x0.f2.f10.length * 1 ≤ 140737488351232 ∧ ∀ y ∈ x0.f2.f10, True) ∧ ((Lit.int .i64 x0.f2.f11).wf = true) ∧ ((Lit.int .i64 x0.f2.f12).wf = true) ∧ ((Lit.int .i64 x0.f2.f13).wf = true) ∧ (x0.f2.f14.length ≤ maxLen ∧ x0.f2.f14.length * 8 ≤ 140737488351232 ∧ ∀ y ∈ x0.f2.f14, (Lit.int .i64 y).wf = true) ∧ ((Lit.int .i64 x0.f2.f15).wf = true) ∧ ((Lit.int .i64 x0.f2.f16).wf = true))) → ((((Lit.int .i64 x1.f0.f0).wf = true) ∧ ((Lit.int .i64 x1.f0.f1).wf = true) ∧ ((Lit.int .i64 x1.f0.f2).wf = true)) ∧ (((Lit.int .i64 x1.f1.f0).wf = true) ∧ ((Lit.int .i64 x1.f1.f1).wf = true) ∧ (True) ∧ (x1.f1.f3.length ≤ maxLen ∧ x1.f1.f3.length * 8 ≤ 140737488351232 ∧ ∀ y ∈ x1.f1.f3, (Lit.int .i64 y).wf = true)) ∧ ((((Lit.int .i64 x1.f2.f0.f0).wf = true) ∧ ((Lit.int .i64 x1.f2.f0.f1).wf = true) ∧ (x1.f2.f0.f2.length ≤ maxLen ∧ x1.f2.f0.f2.length * 16 ≤ 140737488351232 ∧ ∀ y ∈ x1.f2.f0.f2, ((Lit.int .i64 y.f0).wf = true) ∧ ((Lit.int .i64 y.f1).wf = true)) ∧ (x1.f2.f0.f3.length ≤ maxLen ∧ x1.f2.f0.f3.length * 16 ≤ 140737488351232 ∧ ∀ y ∈ x1.f2.f0.f3, ((Lit.int .i64 y.f0).wf = true) ∧ ((Lit.int .i64 y.f1).wf = true))) ∧ ((Lit.int .i64 x1.f2.f1).wf = true) ∧ ((Lit.int .i64 x1.f2.f2).wf = true) ∧ (True) ∧ ((Lit.int .i64 x1.f2.f4).wf = true) ∧ ((Lit.int .i64 x1.f2.f5).wf = true) ∧ ((Lit.int .i64 x1.f2.f6).wf = true) ∧ (True) ∧ (True) ∧ (True) ∧ (x1.f2.f10.length ≤ maxLen ∧ x1.f2.f10.length * 1 ≤ 140737488351232 ∧ ∀ y ∈ x1.f2.f10, True) ∧ ((Lit.int .i64 x1.f2.f11).wf = true) ∧ ((Lit.int .i64 x1.f2.f12).wf = true) ∧ ((Lit.int .i64 x1.f2.f13).wf = true) ∧ (x1.f2.f14.length ≤ maxLen ∧ x1.f2.f14.length * 8 ≤ 140737488351232 ∧ ∀ y ∈ x1.f2.f14, (Lit.int .i64 y).wf = true) ∧ ((Lit.int .i64 x1.f2.f15).wf = true) ∧ ((Lit.int .i64 x1.f2.f16).wf = true))) → ∃ k, laws_FnExactSameVts.f k x0.f0.f0 x0.f0.f1 x0.f0.f2 x0.f1.f0 x0.f1.f1 x0.f1.f2 x0.f1.f3 x0.f2.f0.f0 x0.f2.f0.f1 x0.f2.f0.f2 x0.f2.f0.f3 x0.f2.f1 x0.f2.f2 x0.f2.f3 x0.f2.f4 x0.f2.f5 x0.f2.f6 x0.f2.f7 x0.f2.f8 x0.f2.f9 x0.f2.f10 x0.f2.f11 x0.f2.f12 x0.f2.f13 x0.f2.f14 x0.f2.f15 x0.f2.f16 x1.f0.f0 x1.f0.f1 x1.f0.f2 x1.f1.f0 x1.f1.f1 x1.f1.f2 x1.f1.f3 x1.f2.f0.f0 x1.f2.f0.f1 x1.f2.f0.f2 x1.f2.f0.f3 x1.f2.f1 x1.f2.f2 x1.f2.f3 x1.f2.f4 x1.f2.f5 x1.f2.f6 x1.f2.f7 x1.f2.f8 x1.f2.f9 x1.f2.f10 x1.f2.f11 x1.f2.f12 x1.f2.f13 x1.f2.f14 x1.f2.f15 x1.f2.f16 = some true := by
  intro x y hx hy
  obtain ⟨⟨_, _, _⟩, ⟨_, _, _, hm1, hb1, hw1⟩, ⟨_, _, ⟨hm, hb, hw⟩, hm2, hb2, hw2⟩, _, _, _, _, _, _, _, _, _, ⟨hm3, hb3, hw3⟩, _, _, _, ⟨hm4, hb4, hw4⟩, _, _⟩ := hx
  obtain ⟨⟨_, _, _⟩, ⟨_, _, _, gm1, gb1, gw1⟩, ⟨_, _, ⟨gm, gb, gw⟩, gm2, gb2, gw2⟩, _, _, _, _, _, _, _, _, _, ⟨gm3, gb3, gw3⟩, _, _, _, ⟨gm4, gb4, gw4⟩, _, _⟩ := hy
  refine ⟨x.f1.f3.length + x.f2.f0.f2.length + x.f2.f0.f3.length + x.f2.f10.length + x.f2.f14.length + y.f1.f3.length + y.f2.f0.f2.length + y.f2.f0.f3.length + y.f2.f10.length + y.f2.f14.length + 100, ?_⟩
  generalize hK : x.f1.f3.length + x.f2.f0.f2.length + x.f2.f0.f3.length + x.f2.f10.length + x.f2.f14.length + y.f1.f3.length + y.f2.f0.f2.length + y.f2.f0.f3.length + y.f2.f10.length + y.f2.f14.length + 100 = K
  unfold laws_FnExactSameVts.f
  obtain ⟨t, ht, h⟩ := szVt_ex (x0 := x.f0.f0) (x1 := x.f0.f1) (x2 := x.f0.f2) (x3 := x.f1.f0) (x4 := x.f1.f1) (x5 := x.f1.f2) (x6 := x.f1.f3) (x7 := x.f2.f0.f0) (x8 := x.f2.f0.f1) (x9 := x.f2.f0.f2) (x10 := x.f2.f0.f3) (x11 := x.f2.f1) (x12 := x.f2.f2) (x13 := x.f2.f3) (x14 := x.f2.f4) (x15 := x.f2.f5) (x16 := x.f2.f6) (x17 := x.f2.f7) (x18 := x.f2.f8) (x19 := x.f2.f9) (x20 := x.f2.f10) (x21 := x.f2.f11) (x22 := x.f2.f12) (x23 := x.f2.f13) (x24 := x.f2.f14) (x25 := x.f2.f15) (x26 := x.f2.f16) (n := 1048576) (by omega) (by omega) (by omega) (by omega) (by omega) (by omega) (by omega)
  rw [ht]
  simp only [Option.bind_some]
  rcases h with rfl | ⟨h, h0⟩
  · simp
  rw [if_neg (by omega)]
  obtain ⟨s, hs, g⟩ := szVt_ex (x0 := y.f0.f0) (x1 := y.f0.f1) (x2 := y.f0.f2) (x3 := y.f1.f0) (x4 := y.f1.f1) (x5 := y.f1.f2) (x6 := y.f1.f3) (x7 := y.f2.f0.f0) (x8 := y.f2.f0.f1) (x9 := y.f2.f0.f2) (x10 := y.f2.f0.f3) (x11 := y.f2.f1) (x12 := y.f2.f2) (x13 := y.f2.f3) (x14 := y.f2.f4) (x15 := y.f2.f5) (x16 := y.f2.f6) (x17 := y.f2.f7) (x18 := y.f2.f8) (x19 := y.f2.f9) (x20 := y.f2.f10) (x21 := y.f2.f11) (x22 := y.f2.f12) (x23 := y.f2.f13) (x24 := y.f2.f14) (x25 := y.f2.f15) (x26 := y.f2.f16) (n := t) (by omega) (by omega) (by omega) (by omega) (by omega) (by omega) (by omega)
  rw [hs]
  simp only [Option.bind_some]
  rcases g with rfl | ⟨g, g0⟩
  · simp
  rw [if_neg (by omega), toVt_eq (by omega) (by omega) (by omega) (by omega) (by omega) (by omega) (by omega) (by omega) (by omega) (by omega), toVt_eq (by omega) (by omega) (by omega) (by omega) (by omega) (by omega) (by omega) (by omega) (by omega) (by omega)]
  simp only [Option.bind_some]
  unfold spec_SameVts.f
  rw [l6Same_eq (by first | omega | (simp; omega)) (by first | omega | (simp; omega)) (by first | omega | (simp; omega)) (by first | omega | (simp; omega)) (by first | omega | (simp; omega)) (by first | omega | (simp; omega)) (by first | omega | (simp; omega)) (by first | omega | (simp; omega)) (by first | omega | (simp; omega)) (by first | omega | (simp; omega)), sameVts_eq (by first | omega | (simp; omega)) (by first | omega | (simp; omega)) (by first | omega | (simp; omega)) (by first | omega | (simp; omega)) (by first | omega | (simp; omega)) (by first | omega | (simp; omega)) (by first | omega | (simp; omega)) (by first | omega | (simp; omega)) (by first | omega | (simp; omega)) (by first | omega | (simp; omega))]
  simp only [Option.bind_some]
  rw [eqVt_self (by first | omega | (simp; omega)) (by first | omega | (simp; omega)) (by first | omega | (simp; omega)) (by first | omega | (simp; omega)) (by first | omega | (simp; omega)) (by first | omega | (simp; omega)) (by first | omega | (simp; omega)) (by first | omega | (simp; omega)) (by first | omega | (simp; omega)) (by first | omega | (simp; omega)), eqVt_self (by first | omega | (simp; omega)) (by first | omega | (simp; omega)) (by first | omega | (simp; omega)) (by first | omega | (simp; omega)) (by first | omega | (simp; omega)) (by first | omega | (simp; omega)) (by first | omega | (simp; omega)) (by first | omega | (simp; omega)) (by first | omega | (simp; omega)) (by first | omega | (simp; omega))]
  simp only [bne_self_eq_false, Bool.false_eq_true, if_false, Option.bind_some, if_true]

end Go.Proofs.Ytckgkblpbfckdaa.Pure
