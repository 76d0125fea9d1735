/- SameGrids: for every two grids the program's answer is the reference's, and both stay as they were. No condition. -/
import Derived.Test.YtagipnepckgdfaaPFnExactSameGridsx
import Derived.Test.YtagipnepckgdfaaPlain
namespace Go.Proofs.Ytagipnepckgdfaa.Pure
open Go Go.RowKit Go.Proofs.Ytagipnepckgdfaa.PFnExactSameGrids Go.Proofs.YtagipnepckgdfaaW.PrintWords Go.Proofs.YtagipnepckgdfaaW.PrintLast Go.Proofs.YtagipnepckgdfaaPlain
set_option linter.unusedVariables false
set_option linter.unusedSimpArgs false

instance : DecidableEq S130 := fun a b => match a, b with
  | ⟨a0, a1⟩, ⟨b0, b1⟩ => decidable_of_iff (a0 = b0 ∧ a1 = b1) (by simp)
instance : DecidableEq S107 := fun a b => match a, b with
  | ⟨a0, a1⟩, ⟨b0, b1⟩ => decidable_of_iff (a0 = b0 ∧ a1 = b1) (by simp)
instance : DecidableEq S42 := fun a b => match a, b with
  | ⟨a0, a1, a2, a3⟩, ⟨b0, b1, b2, b3⟩ => decidable_of_iff (a0 = b0 ∧ a1 = b1 ∧ a2 = b2 ∧ a3 = b3) (by simp)

theorem rdCella {xs : List S130} {i : Nat} (h : i < xs.length) : rd_T130 xs (i : Int) = xs[i] := getD_nat h
def toCell (p : S130) : S107 := ⟨p.f0, p.f1⟩
theorem laws_toCellS_eq {k : Nat} {xs : List S130} (hb : xs.length ≤ 8796093022208) (hk : xs.length < k) : laws_toCellS.f k xs = some (xs.map toCell) := by
  unfold laws_toCellS.f
  rw [if_pos (by omega), if_pos (by omega)]
  exact copy_loop laws_toCellS.l0 toCell rd_T130 (fun a c => c (toCell a)) (fun xs i h => rdCella h) (fun k xs ys i => by simp only [laws_toCellS.l0, laws_toCell.f, Option.bind_some, toCell]) (fun a c => rfl) (xs := xs) (by omega) _ k 0 (List.replicate ((xs.length : Int)).toNat z107) (by simp) rfl (Nat.zero_le _) hk (by simp)
theorem rdCellb {xs : List S107} {i : Nat} (h : i < xs.length) : rd_T107 xs (i : Int) = xs[i] := getD_nat h
theorem laws_eqCell_eq (a b : S107) : laws_eqCell.f a.f0 a.f1 b.f0 b.f1 = some (decide (a = b)) := by
  unfold laws_eqCell.f
  obtain ⟨a0, a1⟩ := a
  obtain ⟨b0, b1⟩ := b
  by_cases h1 : a0 = b0 <;> by_cases h2 : a1 = b1 <;> simp [h1, h2]
theorem laws_eqCellS_eq {k : Nat} {xs ys : List S107} (hb : xs.length ≤ 4611686018427387904) (hk : xs.length < k) : laws_eqCellS.f k xs ys = some (decide (xs = ys)) :=
  eq_fun (fun hl => eq_loop laws_eqCellS.l0 rd_T107 (fun a b c => if a = b then c else some false) (fun xs i h => rdCellb h) (fun k xs ys i => by simp only [laws_eqCellS.l0, laws_eqCell_eq, Option.bind_some, decide_eq_true_eq]) (fun a b c => rfl) hl hb _ k 0 rfl (Nat.zero_le _) (by omega))
/-- What is left of a size, or -1. -/
theorem laws_szCellS_eq {xs : List S130} {n : Int} (h : (xs.length : Int) ≤ 8796093022208) (hn : n ≤ 1048576) (h0 : -1 ≤ n) : laws_szCellS.f xs n = some (if n - (xs.length : Int) < 0 then -1 else n - (xs.length : Int)) := by
  unfold laws_szCellS.f
  rw [w64 (by omega)]
  split <;> rfl


theorem spec_l3SameCells_eq {k : Nat} {xs ys : List S107} (hb : xs.length ≤ 4611686018427387904) (hk : xs.length < k) : spec_l3SameCells.f k xs ys = some (decide (xs = ys)) :=
  eq_fun (fun hl => eq_loop spec_l3SameCells.l0 rd_T107 (fun a b c => if (!(a.f0 == b.f0) || (!(a.f1 == b.f1))) = true then some false else c) (fun xs i h => rdCellb h) (fun k xs ys i => by simp only [spec_l3SameCells.l0]) (fun a b c => by obtain ⟨a0, a1⟩ := a; obtain ⟨b0, b1⟩ := b; by_cases h1 : a0 = b0 <;> by_cases h2 : a1 = b1 <;> simp [h1, h2]) hl hb _ k 0 rfl (Nat.zero_le _) (by omega))



theorem impl_Cell_eq {k : Nat} {xs ys : List S107} (hb : xs.length ≤ 4611686018427387904) (hk : xs.length < k) : impl_Cell.f k xs ys = some (decide (xs = ys)) :=
  eq_fun (l := fun k xs ys i => impl_Cell.l0 k xs ys (xs.length : Int) i) (fun hl => eq_loop (fun k xs ys i => impl_Cell.l0 k xs ys (xs.length : Int) i) rd_T107 (fun a b c => if (!(a.f0 == b.f0) || (!(a.f1 == b.f1))) = true then some false else c) (fun xs i h => rdCellb h) (fun k xs ys i => by
    by_cases h : i < (xs.length : Int)
    · simp only [impl_Cell.l0, if_pos h]
    · simp only [impl_Cell.l0, if_neg h]) (fun a b c => by
    obtain ⟨a0, a1⟩ := a; obtain ⟨b0, b1⟩ := b; by_cases h1 : a0 = b0 <;> by_cases h2 : a1 = b1 <;> simp [h1, h2]) hl hb _ k 0 rfl (Nat.zero_le _) (by omega))


theorem laws_szGrid_ex {a b : Int} {xs ys} {n : Int} (h : (List.length xs : Int) ≤ 8796093022208) (h' : (List.length ys : Int) ≤ 8796093022208) (hn : n ≤ 1048576) (h0 : 0 ≤ n) : ∃ t : Int, laws_szGrid.f a b xs ys n = some t ∧ (t = -1 ∨ (t = n - (List.length xs : Int) - (List.length ys : Int) ∧ 0 ≤ t)) := by
  unfold laws_szGrid.f
  rw [laws_szCellS_eq h hn (by omega)]
  simp only [Option.bind_some]
  by_cases g : n - (List.length xs : Int) < 0
  · exact ⟨-1, by simp [g], .inl rfl⟩
  · rw [if_neg g, if_neg g, laws_szCellS_eq h' (by omega) (by omega)]
    simp only [Option.bind_some]
    by_cases g2 : n - (List.length xs : Int) - (List.length ys : Int) < 0
    · exact ⟨-1, by simp [g2], .inl rfl⟩
    · exact ⟨n - (List.length xs : Int) - (List.length ys : Int), by simp [g2], .inr ⟨rfl, by omega⟩⟩

theorem laws_toGrid_eq {k : Nat} {a b : Int} {xs ys} (hb : List.length xs ≤ 8796093022208) (hb' : List.length ys ≤ 8796093022208) (hk : List.length xs < k) (hk' : List.length ys < k) : laws_toGrid.f k a b xs ys = some (a, b, xs.map toCell, ys.map toCell) := by
  unfold laws_toGrid.f
  rw [laws_toCellS_eq hb hk, laws_toCellS_eq hb' hk']
  rfl

theorem laws_eqGrid_eq {k : Nat} {a b a' b' : Int} {xs ys xs' ys'} (hb : List.length xs ≤ 4611686018427387904) (hb' : List.length ys ≤ 4611686018427387904) (hk : List.length xs < k) (hk' : List.length ys < k) : laws_eqGrid.f k a b xs ys a' b' xs' ys' = some (decide (a = a' ∧ b = b' ∧ xs = xs' ∧ ys = ys')) := by
  unfold laws_eqGrid.f
  rw [laws_eqCellS_eq hb hk, laws_eqCellS_eq hb' hk']
  simp only [Option.bind_some]
  by_cases h1 : a = a' <;> by_cases h2 : b = b' <;> by_cases h3 : xs = xs' <;> by_cases h4 : ys = ys' <;> simp [h1, h2, h3, h4]

theorem FnExactSameGrids : ∀ (x0 : S42) (x1 : S42), (((Lit.int .i64 x0.f0).wf = true) ∧ ((Lit.int .i64 x0.f1).wf = true) ∧ (x0.f2.length ≤ maxLen ∧ x0.f2.length * 16 ≤ 140737488351232 ∧ ∀ y ∈ x0.f2, ((Lit.int .i64 y.f0).wf = true) ∧ ((Lit.int .i64 y.f1).wf = true)) ∧ (x0.f3.length ≤ maxLen ∧ x0.f3.length * 16 ≤ 140737488351232 ∧ ∀ y ∈ x0.f3, ((Lit.int .i64 y.f0).wf = true) ∧ ((Lit.int .i64 y.f1).wf = true))) → (((Lit.int .i64 x1.f0).wf = true) ∧ ((Lit.int .i64 x1.f1).wf = true) ∧ (x1.f2.length ≤ maxLen ∧ x1.f2.length * 16 ≤ 140737488351232 ∧ ∀ y ∈ x1.f2, ((Lit.int .i64 y.f0).wf = true) ∧ ((Lit.int .i64 y.f1).wf = true)) ∧ (x1.f3.length ≤ maxLen ∧ x1.f3.length * 16 ≤ 140737488351232 ∧ ∀ y ∈ x1.f3, ((Lit.int .i64 y.f0).wf = true) ∧ ((Lit.int .i64 y.f1).wf = true))) → ∃ k, laws_FnExactSameGrids.f k x0.f0 x0.f1 x0.f2 x0.f3 x1.f0 x1.f1 x1.f2 x1.f3 = some true := by
  intro x y hx hy
  obtain ⟨_, _, ⟨hm, hb, hw⟩, hm2, hb2, hw2⟩ := hx
  obtain ⟨_, _, ⟨hm', hb', hw'⟩, hm2', hb2', hw2'⟩ := hy
  refine ⟨x.f2.length + x.f3.length + y.f2.length + y.f3.length + 100, ?_⟩
  generalize hK : x.f2.length + x.f3.length + y.f2.length + y.f3.length + 100 = K
  unfold laws_FnExactSameGrids.f
  obtain ⟨t, ht, h⟩ := laws_szGrid_ex (a := x.f0) (b := x.f1) (xs := x.f2) (ys := x.f3) (n := 1048576) (by omega) (by omega) (by omega) (by omega)
  rw [ht]
  simp only [Option.bind_some]
  rcases h with rfl | ⟨h, h0⟩
  · simp
  rw [if_neg (by omega)]
  obtain ⟨s, hs, g⟩ := laws_szGrid_ex (a := y.f0) (b := y.f1) (xs := y.f2) (ys := y.f3) (n := t) (by omega) (by omega) (by omega) (by omega)
  rw [hs]
  simp only [Option.bind_some]
  rcases g with rfl | ⟨g, g0⟩
  · simp
  rw [if_neg (by omega), laws_toGrid_eq (by omega) (by omega) (by omega) (by omega), laws_toGrid_eq (by omega) (by omega) (by omega) (by omega)]
  simp only [Option.bind_some]
  have h1 : spec_SameGrids.f K x.f0 x.f1 (x.f2.map toCell) (x.f3.map toCell) y.f0 y.f1 (y.f2.map toCell) (y.f3.map toCell) = some (decide (x.f0 = y.f0 ∧ x.f1 = y.f1 ∧ x.f2.map toCell = y.f2.map toCell ∧ x.f3.map toCell = y.f3.map toCell)) := by
    unfold spec_SameGrids.f spec_l3Same.f
    rw [spec_l3SameCells_eq (by simp; omega) (by simp; omega), spec_l3SameCells_eq (by simp; omega) (by simp; omega)]
    by_cases e1 : x.f0 = y.f0 <;> by_cases e2 : x.f1 = y.f1 <;> by_cases e3 : x.f2.map toCell = y.f2.map toCell <;> simp [e1, e2, e3]
  have h2 : impl_SameGrids.f K x.f0 x.f1 (x.f2.map toCell) (x.f3.map toCell) y.f0 y.f1 (y.f2.map toCell) (y.f3.map toCell) = some (decide (x.f0 = y.f0 ∧ x.f1 = y.f1 ∧ x.f2.map toCell = y.f2.map toCell ∧ x.f3.map toCell = y.f3.map toCell)) := by
    unfold impl_SameGrids.f
    rw [impl_Cell_eq (by simp; omega) (by simp; omega), impl_Cell_eq (by simp; omega) (by simp; omega)]
    by_cases e1 : x.f0 = y.f0 <;> by_cases e2 : x.f1 = y.f1 <;> by_cases e3 : x.f2.map toCell = y.f2.map toCell <;> simp [e1, e2, e3]
  rw [h1, h2]
  simp only [Option.bind_some]
  rw [laws_eqGrid_eq (by simp; omega) (by simp; omega) (by simp; omega) (by simp; omega), laws_eqGrid_eq (by simp; omega) (by simp; omega) (by simp; omega) (by simp; omega)]
  simp

end Go.Proofs.Ytagipnepckgdfaa.Pure
