/- GridFault: for every grid the program's answer is the reference's, and the grid stays as it was. No condition. -/
import Derived.Test.YtagipnepckgdfaaPFnExactGridFaultx
import Derived.Test.YtagipnepckgdfaaPlain
namespace Go.Proofs.Ytagipnepckgdfaa.Pure
open Go Go.RowKit Go.Proofs.Ytagipnepckgdfaa.PFnExactGridFault Go.Proofs.YtagipnepckgdfaaW.PrintWords Go.Proofs.YtagipnepckgdfaaW.PrintLast Go.Proofs.YtagipnepckgdfaaPlain
set_option linter.unusedVariables false
set_option linter.unusedSimpArgs false

instance : DecidableEq S130 := fun a b => match a, b with
  | ⟨a0, a1⟩, ⟨b0, b1⟩ => decidable_of_iff (a0 = b0 ∧ a1 = b1) (by simp)
instance : DecidableEq S107 := fun a b => match a, b with
  | ⟨a0, a1⟩, ⟨b0, b1⟩ => decidable_of_iff (a0 = b0 ∧ a1 = b1) (by simp)
instance : DecidableEq S42 := fun a b => match a, b with
  | ⟨a0, a1, a2, a3⟩, ⟨b0, b1, b2, b3⟩ => decidable_of_iff (a0 = b0 ∧ a1 = b1 ∧ a2 = b2 ∧ a3 = b3) (by simp)

theorem spec_l1In_eq (x a b : Int) : spec_l1In.f x a b = some (decide (a ≤ x ∧ x ≤ b)) := by
  unfold spec_l1In.f
  split <;> (congr 1; simp_all) <;> omega

theorem impl_in_eq (x a b : Int) : impl_in.f x a b = some (decide (a ≤ x ∧ x ≤ b)) := by
  unfold impl_in.f
  split <;> (congr 1; simp_all) <;> omega

theorem spec_l1Char_eq (x : Int) : spec_l1Char.f x = some (isCh x) := by
  unfold spec_l1Char.f isCh
  simp only [spec_l1In_eq, Option.bind_some]
  by_cases h : 0 ≤ x ∧ x ≤ 55295
  · simp [h]
  · rw [if_neg (by simpa using h)]
    congr 1
    simp only [h, false_or]

theorem impl_isChar_eq (x : Int) : impl_isChar.f x = some (isCh x) := by
  unfold impl_isChar.f isCh
  simp only [impl_in_eq, Option.bind_some]
  by_cases h : 0 ≤ x ∧ x ≤ 65535
  · rw [if_pos (by simpa using h), ← decide_not]
    congr 1
    refine decide_eq_decide.2 ?_
    omega
  · rw [if_neg (by simpa using h)]
    congr 1
    symm
    rw [decide_eq_false_iff_not]
    omega

theorem rdCella {xs : List S130} {i : Nat} (h : i < xs.length) : rd_T130 xs (i : Int) = xs[i] := getD_nat h
def toCell (p : S130) : S107 := ⟨p.f0, p.f1⟩
theorem laws_toCellS_eq {k : Nat} {xs : List S130} (hb : xs.length ≤ 8796093022208) (hk : xs.length < k) : laws_toCellS.f k xs = some (xs.map toCell) := by
  unfold laws_toCellS.f
  rw [if_pos (by omega), if_pos (by omega)]
  exact copy_loop laws_toCellS.l0 toCell rd_T130 (fun a c => c (toCell a)) (fun xs i h => rdCella h) (fun k xs ys i => by simp only [laws_toCellS.l0, laws_toCell.f, Option.bind_some, toCell]) (fun a c => rfl) (xs := xs) (by omega) _ k 0 (List.replicate ((xs.length : Int)).toNat z107) (by simp) rfl (Nat.zero_le _) hk (by simp)
theorem rdCellb {xs : List S107} {i : Nat} (h : i < xs.length) : rd_T107 xs (i : Int) = xs[i] := getD_nat h
theorem laws_eqCell_eq (a b : S107) : laws_eqCell.f a.f0 a.f1 b.f0 b.f1 = some (decide (a = b)) := by
  unfold laws_eqCell.f
  obtain ⟨a0, a1⟩ := a
  obtain ⟨b0, b1⟩ := b
  by_cases h1 : a0 = b0 <;> by_cases h2 : a1 = b1 <;> simp [h1, h2]
theorem laws_eqCellS_eq {k : Nat} {xs ys : List S107} (hb : xs.length ≤ 4611686018427387904) (hk : xs.length < k) : laws_eqCellS.f k xs ys = some (decide (xs = ys)) :=
  eq_fun (fun hl => eq_loop laws_eqCellS.l0 rd_T107 (fun a b c => if a = b then c else some false) (fun xs i h => rdCellb h) (fun k xs ys i => by simp only [laws_eqCellS.l0, laws_eqCell_eq, Option.bind_some, decide_eq_true_eq]) (fun a b c => rfl) hl hb _ k 0 rfl (Nat.zero_le _) (by omega))
/-- What is left of a size, or -1. -/
theorem laws_szCellS_eq {xs : List S130} {n : Int} (h : (xs.length : Int) ≤ 8796093022208) (hn : n ≤ 1048576) (h0 : -1 ≤ n) : laws_szCellS.f xs n = some (if n - (xs.length : Int) < 0 then -1 else n - (xs.length : Int)) := by
  unfold laws_szCellS.f
  rw [w64 (by omega)]
  split <;> rfl

theorem laws_szGrid_ex {a b : Int} {xs ys} {n : Int} (h : (List.length xs : Int) ≤ 8796093022208) (h' : (List.length ys : Int) ≤ 8796093022208) (hn : n ≤ 1048576) (h0 : 0 ≤ n) : ∃ t : Int, laws_szGrid.f a b xs ys n = some t ∧ (t = -1 ∨ (t = n - (List.length xs : Int) - (List.length ys : Int) ∧ 0 ≤ t)) := by
  unfold laws_szGrid.f
  rw [laws_szCellS_eq h hn (by omega)]
  simp only [Option.bind_some]
  by_cases g : n - (List.length xs : Int) < 0
  · exact ⟨-1, by simp [g], .inl rfl⟩
  · rw [if_neg g, if_neg g, laws_szCellS_eq h' (by omega) (by omega)]
    simp only [Option.bind_some]
    by_cases g2 : n - (List.length xs : Int) - (List.length ys : Int) < 0
    · exact ⟨-1, by simp [g2], .inl rfl⟩
    · exact ⟨n - (List.length xs : Int) - (List.length ys : Int), by simp [g2], .inr ⟨rfl, by omega⟩⟩

theorem laws_toGrid_eq {k : Nat} {a b : Int} {xs ys} (hb : List.length xs ≤ 8796093022208) (hb' : List.length ys ≤ 8796093022208) (hk : List.length xs < k) (hk' : List.length ys < k) : laws_toGrid.f k a b xs ys = some (a, b, xs.map toCell, ys.map toCell) := by
  unfold laws_toGrid.f
  rw [laws_toCellS_eq hb hk, laws_toCellS_eq hb' hk']
  rfl

theorem laws_eqGrid_eq {k : Nat} {a b a' b' : Int} {xs ys xs' ys'} (hb : List.length xs ≤ 4611686018427387904) (hb' : List.length ys ≤ 4611686018427387904) (hk : List.length xs < k) (hk' : List.length ys < k) : laws_eqGrid.f k a b xs ys a' b' xs' ys' = some (decide (a = a' ∧ b = b' ∧ xs = xs' ∧ ys = ys')) := by
  unfold laws_eqGrid.f
  rw [laws_eqCellS_eq hb hk, laws_eqCellS_eq hb' hk']
  simp only [Option.bind_some]
  by_cases h1 : a = a' <;> by_cases h2 : b = b' <;> by_cases h3 : xs = xs' <;> by_cases h4 : ys = ys' <;> simp [h1, h2, h3, h4]

theorem impl_unless_eq (b : Bool) (x : Int) : impl_unless.f b x = some (if b = true then 0 else x) := by
  unfold impl_unless.f
  split <;> rfl

def showsB (x : Int) : Bool := isCh x && decide (x ≥ 32) && (x != 127)
theorem impl_shows_eq (x : Int) : impl_shows.f x = some (isCh x && decide (x ≥ 32) && (x != 127)) := by
  unfold impl_shows.f
  simp only [impl_isChar_eq, Option.bind_some]
  cases isCh x <;> by_cases h : x ≥ 32 <;> simp [h]


def cellB (x y : Int) : Bool := isCh x && decide (x ≥ 32) && (x != 127) && decide (0 ≤ y ∧ y ≤ 31)
def badCell (x : S107) : Bool := !(cellB x.f0 x.f1)
theorem rdCell {xs : List S107} {i : Nat} (h : i < xs.length) : rd_T107 xs (i : Int) = xs[i] := rdOf_nat h
theorem spec_l3Cell_eq (x y : Int) : spec_l3Cell.f x y = some (cellB x y) := by
  unfold spec_l3Cell.f cellB
  simp only [spec_l1In_eq, spec_l1Char_eq, Option.bind_some]
  cases isCh x <;> by_cases h : x ≥ 32 <;> by_cases h2 : x = 127 <;> simp [h, h2]
theorem impl_Cell_ok_eq (x y : Int) : impl_Cell_ok.f x y = some (cellB x y) := by
  unfold impl_Cell_ok.f impl_isAttr.f cellB
  simp only [impl_in_eq, impl_shows_eq, Option.bind_some]
  cases isCh x <;> by_cases h : x ≥ 32 <;> by_cases h2 : x = 127 <;> simp [h, h2]
theorem spec_l3Cells_eq {k : Nat} {xs : List S107} (hb : xs.length ≤ 4611686018427387904) (hk : xs.length < k) : spec_l3Cells.f k xs = some (!xs.any badCell) := by
  have h := any_loop spec_l3Cells.l0 rd_T107 badCell false true (fun xs i h => rdCell h) (fun k xs i => by
    simp only [spec_l3Cells.l0, spec_l3Cell_eq, Option.bind_some, badCell]
    by_cases g : cellB (rd_T107 xs i).f0 (rd_T107 xs i).f1 = true <;> simp [g]) hb xs.length k 0 (by omega) (Nat.zero_le _) (by omega)
  rw [List.drop_zero] at h
  unfold spec_l3Cells.f
  refine h.trans ?_
  cases xs.any badCell <;> rfl
theorem impl_Cell_79_eq {k : Nat} {xs : List S107} (hb : xs.length ≤ 4611686018427387904) (hk : xs.length < k) : impl_Cell_79.f k xs = some (xs.any badCell) := by
  obtain ⟨r, h, hr⟩ := index_loop impl_Cell_114.l0 rd_T107 badCell (fun xs i h => rdCell h) (fun k xs n i => by
    simp only [impl_Cell_114.l0, impl_GridFault_1.f, impl_Cell_ok_eq, Option.bind_some, badCell]
    rfl) hb xs.length k 0 (by omega) (Nat.zero_le _) (by omega)
  rw [List.drop_zero] at hr
  have h' : impl_Cell_114.l0 k xs (xs.length : Int) 0 = some r := h
  unfold impl_Cell_79.f impl_Cell_114.f
  simp only [h', hr, Option.bind_some]
def sizeB (a b : Int) : Bool := decide (1 ≤ a ∧ a ≤ 6) && decide (2 ≤ b ∧ b ≤ 12)
theorem spec_l3Size_eq (a b : Int) : spec_l3Size.f a b = some (sizeB a b) := by
  unfold spec_l3Size.f sizeB
  simp only [spec_l1In_eq, Option.bind_some]
  by_cases h : 1 ≤ a ∧ a ≤ 6 <;> simp [h]
theorem impl_sizeOk_eq (a b : Int) : impl_sizeOk.f a b = some (sizeB a b) := by
  unfold impl_sizeOk.f sizeB
  simp only [impl_in_eq, Option.bind_some]
  by_cases h : 1 ≤ a ∧ a ≤ 6 <;> simp [h]
/-- What is wrong with a grid. -/
def gridF (a b : Int) (xs ys : List S107) : Int := if sizeB a b = true then (if (xs.length : Int) = wrap64 (a * b) ∧ ¬ (ys.length : Int) > wrap64 (5 * b) ∧ (ys.length : Int) % b = 0 then (if xs.any badCell = true ∨ ys.any badCell = true then 3 else 0) else 1) else 3
theorem spec_l3Fault_eq {k : Nat} {a b : Int} {xs ys : List S107} (hb : xs.length ≤ 4611686018427387904) (hb' : ys.length ≤ 4611686018427387904) (hk : xs.length + 3 < k) (hk' : ys.length + 3 < k) : spec_l3Fault.f k a b xs ys = some (gridF a b xs ys) := by
  obtain ⟨k, rfl⟩ : ∃ m, k = m + 1 := ⟨k - 1, by omega⟩
  unfold spec_l3Fault.f gridF
  simp only [spec_l3Size_eq, Option.bind_some, spec_l3Fault.j0]
  rw [spec_l3Cells_eq hb (by omega), spec_l3Cells_eq hb' (by omega)]
  by_cases h : sizeB a b = true
  · have h0 : b ≠ 0 := by
      simp [sizeB] at h
      omega
    by_cases h1 : (xs.length : Int) = wrap64 (a * b) <;> by_cases h2 : (ys.length : Int) > wrap64 (5 * b) <;> by_cases h3 : (ys.length : Int) % b = 0 <;> cases xs.any badCell <;> cases ys.any badCell <;> simp [h, h0, h1, h2, h3]
  · simp [h]
theorem impl_GridFault_eq {k : Nat} {a b : Int} {xs ys : List S107} (hb : xs.length ≤ 4611686018427387904) (hb' : ys.length ≤ 4611686018427387904) (hk : xs.length + 3 < k) (hk' : ys.length + 3 < k) : impl_GridFault.f k a b xs ys = some (gridF a b xs ys) := by
  obtain ⟨k, rfl⟩ : ∃ m, k = m + 1 := ⟨k - 1, by omega⟩
  unfold impl_GridFault.f gridF
  simp only [impl_sizeOk_eq, Option.bind_some, impl_GridFault.j0, impl_unless_eq]
  rw [impl_Cell_79_eq hb (by omega), impl_Cell_79_eq hb' (by omega)]
  by_cases h : sizeB a b = true
  · have h0 : b ≠ 0 := by
      simp [sizeB] at h
      omega
    by_cases h1 : (xs.length : Int) = wrap64 (a * b) <;> by_cases h2 : (ys.length : Int) > wrap64 (5 * b) <;> by_cases h3 : (ys.length : Int) % b = 0 <;> cases xs.any badCell <;> cases ys.any badCell <;> simp [h, h0, h1, h2, h3]
  · simp [h]


theorem FnExactGridFault : ∀ (x0 : S42), (((Lit.int .i64 x0.f0).wf = true) ∧ ((Lit.int .i64 x0.f1).wf = true) ∧ (x0.f2.length ≤ maxLen ∧ x0.f2.length * 16 ≤ 140737488351232 ∧ ∀ y ∈ x0.f2, ((Lit.int .i64 y.f0).wf = true) ∧ ((Lit.int .i64 y.f1).wf = true)) ∧ (x0.f3.length ≤ maxLen ∧ x0.f3.length * 16 ≤ 140737488351232 ∧ ∀ y ∈ x0.f3, ((Lit.int .i64 y.f0).wf = true) ∧ ((Lit.int .i64 y.f1).wf = true))) → ∃ k, laws_FnExactGridFault.f k x0.f0 x0.f1 x0.f2 x0.f3 = some true := by
  intro x hx
  obtain ⟨_, _, ⟨hm, hb, hw⟩, hm', hb', hw'⟩ := hx
  refine ⟨x.f2.length + x.f3.length + 100, ?_⟩
  unfold laws_FnExactGridFault.f
  obtain ⟨t, ht, h⟩ := laws_szGrid_ex (a := x.f0) (b := x.f1) (xs := x.f2) (ys := x.f3) (n := 1048576) (by omega) (by omega) (by omega) (by omega)
  rw [ht]
  simp only [Option.bind_some]
  rcases h with rfl | ⟨h, h0⟩
  · simp
  rw [if_neg (by omega), laws_toGrid_eq (by omega) (by omega) (by omega) (by omega)]
  simp only [Option.bind_some]
  unfold spec_GridFault.f
  rw [spec_l3Fault_eq (by simp; omega) (by simp; omega) (by simp; omega) (by simp; omega), impl_GridFault_eq (by simp; omega) (by simp; omega) (by simp; omega) (by simp; omega)]
  simp only [Option.bind_some, if_true]
  rw [laws_eqGrid_eq (by simp; omega) (by simp; omega) (by simp; omega) (by simp; omega)]
  simp

end Go.Proofs.Ytagipnepckgdfaa.Pure
