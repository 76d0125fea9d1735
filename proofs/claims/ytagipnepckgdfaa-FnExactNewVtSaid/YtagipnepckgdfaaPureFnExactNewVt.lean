/- NewVt: for every two numbers the program's answer is the reference's, and it is the caller's own. No condition. (The sizes that are right are 66 pairs: each is computed.) -/
import Derived.Test.YtagipnepckgdfaaPFnExactNewVtx
import Derived.Test.YtagipnepckgdfaaPlain
namespace Go.Proofs.Ytagipnepckgdfaa.Pure
open Go Go.RowKit Go.Proofs.Ytagipnepckgdfaa.PFnExactNewVt Go.Proofs.YtagipnepckgdfaaW.PrintWords Go.Proofs.YtagipnepckgdfaaW.PrintLast Go.Proofs.YtagipnepckgdfaaPlain
set_option linter.unusedVariables false
set_option linter.unusedSimpArgs false

instance : DecidableEq S107 := fun a b => match a, b with
  | ⟨a0, a1⟩, ⟨b0, b1⟩ => decidable_of_iff (a0 = b0 ∧ a1 = b1) (by simp)

theorem spec_l1In_eq (x a b : Int) : spec_l1In.f x a b = some (decide (a ≤ x ∧ x ≤ b)) := by
  unfold spec_l1In.f
  split <;> (congr 1; simp_all) <;> omega

theorem impl_in_eq (x a b : Int) : impl_in.f x a b = some (decide (a ≤ x ∧ x ≤ b)) := by
  unfold impl_in.f
  split <;> (congr 1; simp_all) <;> omega

theorem laws_eqInt64S_eq {k : Nat} {xs ys : List Int} (hb : xs.length ≤ 4611686018427387904) (hk : xs.length < k) : laws_eqInt64S.f k xs ys = some (decide (xs = ys)) :=
  eq_fun (fun hl => eq_loop laws_eqInt64S.l0 rd (fun a b c => if a = b then c else some false) (fun xs i h => rd_nat h) (fun k xs ys i => by simp only [laws_eqInt64S.l0]) (fun a b c => rfl) hl hb _ k 0 rfl (Nat.zero_le _) (by omega))

theorem laws_markInt64S_eq {k : Nat} {x : Int} {xs : List Int} (hb : xs.length ≤ 1000000000000000000) (hk : xs.length < k) (h0 : 0 ≤ x) (h1 : x ≤ 1000000000000000000) : laws_markInt64S.f k xs x = some (x + 1 * (xs.length : Int), marks (fun x => x) 1 xs.length x) := by
  have h := mark_loop laws_markInt64S.l0 (fun x => x) 1 (by omega) (fun k xs x i => by simp only [laws_markInt64S.l0]) xs.length k 0 x xs (by omega) rfl (Nat.zero_le _) hk h0 (by omega)
  rw [List.take_zero, List.nil_append] at h
  exact h

theorem laws_heldInt64S_eq {k m : Nat} {x : Int} (hb : m ≤ 1000000000000000000) (hk : m < k) (h0 : 0 ≤ x) (h1 : x ≤ 1000000000000000000) : laws_heldInt64S.f k (marks (fun x => x) 1 m x) x = some (x + 1 * (m : Int)) := by
  have h := held_loop laws_heldInt64S.l0 rd (fun a x o => if a = x then o else some (-1)) (fun x => x) 1 (by omega) (fun xs i h => rd_nat h) (fun k xs x i => by simp only [laws_heldInt64S.l0]) (fun x o h0 h1 => by simp) m k 0 x [] rfl (by omega) hk h0 (by omega)
  rw [List.nil_append] at h
  exact h

theorem rdCellb {xs : List S107} {i : Nat} (h : i < xs.length) : rd_T107 xs (i : Int) = xs[i] := getD_nat h
theorem laws_eqCell_eq (a b : S107) : laws_eqCell.f a.f0 a.f1 b.f0 b.f1 = some (decide (a = b)) := by
  unfold laws_eqCell.f
  obtain ⟨a0, a1⟩ := a
  obtain ⟨b0, b1⟩ := b
  by_cases h1 : a0 = b0 <;> by_cases h2 : a1 = b1 <;> simp [h1, h2]
theorem laws_eqCellS_eq {k : Nat} {xs ys : List S107} (hb : xs.length ≤ 4611686018427387904) (hk : xs.length < k) : laws_eqCellS.f k xs ys = some (decide (xs = ys)) :=
  eq_fun (fun hl => eq_loop laws_eqCellS.l0 rd_T107 (fun a b c => if a = b then c else some false) (fun xs i h => rdCellb h) (fun k xs ys i => by simp only [laws_eqCellS.l0, laws_eqCell_eq, Option.bind_some, decide_eq_true_eq]) (fun a b c => rfl) hl hb _ k 0 rfl (Nat.zero_le _) (by omega))
theorem wCell2 (x : Int) : wrap64 (wrap64 (x + 1) + 1) = wrap64 (x + 2) := by unfold wrap64; omega
def putCell (x : Int) : S107 := ⟨x, wrap64 (x + 1)⟩
theorem laws_markCellS_eq {k : Nat} {x : Int} {xs : List S107} (hb : xs.length ≤ 1000000000000000000) (hk : xs.length < k) (h0 : 0 ≤ x) (h1 : x ≤ 1000000000000000000) : laws_markCellS.f k xs x = some (x + 2 * (xs.length : Int), marks putCell 2 xs.length x) := by
  have h := mark_loop laws_markCellS.l0 putCell 2 (by omega) (fun k xs x i => by
    simp only [laws_markCellS.l0]
    split
    · split
      · rename_i g1 g2
        obtain ⟨j, rfl⟩ := Int.eq_ofNat_of_zero_le g2
        simp only [Option.bind_some, Int.toNat_natCast, List.set_set]
        rw [rdCellb (by rw [List.length_set]; omega), wCell2, List.getElem_set_self]
        rfl
      · rfl
    · rfl) xs.length k 0 x xs (by omega) rfl (Nat.zero_le _) hk h0 (by omega)
  rw [List.take_zero, List.nil_append] at h
  exact h
theorem laws_heldCellS_eq {k m : Nat} {x : Int} (hb : m ≤ 1000000000000000000) (hk : m < k) (h0 : 0 ≤ x) (h1 : x ≤ 1000000000000000000) : laws_heldCellS.f k (marks putCell 2 m x) x = some (x + 2 * (m : Int)) := by
  have h := held_loop laws_heldCellS.l0 rd_T107 (fun a x o => if a.f0 = x then (if a.f1 = wrap64 (x + 1) then o else some (-1)) else some (-1)) putCell 2 (by omega) (fun xs i h => rdCellb h) (fun k xs x i => by simp only [laws_heldCellS.l0, wCell2]) (fun x o h0 h1 => by simp [putCell]) m k 0 x [] rfl (by omega) hk h0 (by omega)
  rw [List.nil_append] at h
  exact h

theorem laws_eqParser_eq {k : Nat} {a b a' b' : Int} {p p' : Bool} {xs ys : List Int} (hb : xs.length ≤ 4611686018427387904) (hk : xs.length < k) : laws_eqParser.f k a b p xs a' b' p' ys = some (decide (a = a' ∧ b = b' ∧ p = p' ∧ xs = ys)) := by
  unfold laws_eqParser.f
  rw [laws_eqInt64S_eq hb hk]
  simp only [Option.bind_some]
  by_cases h1 : a = a' <;> by_cases h2 : b = b' <;> by_cases h3 : p = p' <;> by_cases h4 : xs = ys <;> simp [h1, h2, h3, h4]

theorem laws_eqGrid_eq {k : Nat} {a b a' b' : Int} {xs ys xs' ys'} (hb : List.length xs ≤ 4611686018427387904) (hb' : List.length ys ≤ 4611686018427387904) (hk : List.length xs < k) (hk' : List.length ys < k) : laws_eqGrid.f k a b xs ys a' b' xs' ys' = some (decide (a = a' ∧ b = b' ∧ xs = xs' ∧ ys = ys')) := by
  unfold laws_eqGrid.f
  rw [laws_eqCellS_eq hb hk, laws_eqCellS_eq hb' hk']
  simp only [Option.bind_some]
  by_cases h1 : a = a' <;> by_cases h2 : b = b' <;> by_cases h3 : xs = xs' <;> by_cases h4 : ys = ys' <;> simp [h1, h2, h3, h4]


theorem laws_markGrid_eq {k : Nat} {a b x : Int} {xs ys : List S107} (hb : xs.length ≤ 1000000000) (hb' : ys.length ≤ 1000000000) (hk : xs.length < k) (hk' : ys.length < k) (h0 : 0 ≤ x) (h1 : x ≤ 1000000000) : laws_markGrid.f k a b xs ys x = some (x + 2 * (xs.length : Int) + 2 * (ys.length : Int), marks putCell 2 xs.length x, marks putCell 2 ys.length (x + 2 * (xs.length : Int))) := by
  unfold laws_markGrid.f
  rw [laws_markCellS_eq (by omega) hk h0 (by omega)]
  simp only [Option.bind_some]
  rw [laws_markCellS_eq (by omega) hk' (by omega) (by omega)]
  rfl
theorem laws_heldGrid_eq {k m n : Nat} {a b x : Int} (hb : m ≤ 1000000000) (hb' : n ≤ 1000000000) (hk : m < k) (hk' : n < k) (h0 : 0 ≤ x) (h1 : x ≤ 1000000000) : laws_heldGrid.f k a b (marks putCell 2 m x) (marks putCell 2 n (x + 2 * (m : Int))) x = some (x + 2 * (m : Int) + 2 * (n : Int)) := by
  unfold laws_heldGrid.f
  rw [laws_heldCellS_eq (by omega) hk h0 (by omega)]
  simp only [Option.bind_some]
  rw [if_neg (by omega), laws_heldCellS_eq (by omega) hk' (by omega) (by omega)]
  simp only [Option.bind_some]
  rw [if_neg (by omega)]



theorem blanks_loop (at_ : Int) : ∀ (d k : Nat) (acc : List S107), d ≤ 1000 → d < k → acc.length + d ≤ 1000000 → spec_l3Blanks.l0 k (d : Int) at_ acc = some (acc ++ List.replicate d ⟨32, at_⟩) := by
  intro d
  induction d with
  | zero =>
    intro k acc _ hk ha
    obtain ⟨k, rfl⟩ : ∃ m, k = m + 1 := ⟨k - 1, by omega⟩
    simp only [spec_l3Blanks.l0]
    rw [if_neg (by omega)]
    simp
  | succ d ih =>
    intro k acc hd hk ha
    obtain ⟨k, rfl⟩ : ∃ m, k = m + 1 := ⟨k - 1, by omega⟩
    simp only [spec_l3Blanks.l0]
    rw [if_pos (by omega), if_pos (by omega), w64 (x := ((d + 1 : Nat) : Int) - 1) (by omega)]
    have e : ((d + 1 : Nat) : Int) - 1 = (d : Int) := by omega
    rw [e, ih k _ (by omega) (by omega) (by simp; omega), List.append_assoc, List.singleton_append, List.replicate_succ]
theorem spec_l3Blanks_eq {k : Nat} {n at_ : Int} (h0 : 0 ≤ n) (h1 : n ≤ 1000) (hk : 1100 ≤ k) : spec_l3Blanks.f k n at_ = some (List.replicate n.toNat ⟨32, at_⟩) := by
  obtain ⟨d, rfl⟩ := Int.eq_ofNat_of_zero_le h0
  unfold spec_l3Blanks.f
  rw [blanks_loop at_ d k [] (by omega) (by omega) (by simp; omega)]
  simp
theorem impl_blanks_eq {n at_ : Int} (h0 : 1 ≤ n) (h1 : n ≤ 1000) : impl_blanks.f n at_ = some (List.replicate n.toNat ⟨32, at_⟩) := by
  unfold impl_blanks.f impl_Cell.f
  rw [if_pos (show [(⟨32, at_⟩ : S107)].length = 1 from rfl), if_pos h0, if_pos h1]
  rfl
theorem spec_l3Size_eq (a b : Int) : spec_l3Size.f a b = some (decide (1 ≤ a ∧ a ≤ 6) && decide (2 ≤ b ∧ b ≤ 12)) := by
  unfold spec_l3Size.f
  simp only [spec_l1In_eq, Option.bind_some]
  by_cases h : 1 ≤ a ∧ a ≤ 6 <;> simp [h]
theorem impl_sizeOk_eq (a b : Int) : impl_sizeOk.f a b = some (decide (1 ≤ a ∧ a ≤ 6) && decide (2 ≤ b ∧ b ≤ 12)) := by
  unfold impl_sizeOk.f
  simp only [impl_in_eq, Option.bind_some]
  by_cases h : 1 ≤ a ∧ a ≤ 6 <;> simp [h]
theorem area {a b : Int} (h : 1 ≤ a ∧ a ≤ 6) (g : 2 ≤ b ∧ b ≤ 12) : wrap64 (a * b) = a * b ∧ 1 ≤ a * b ∧ a * b ≤ 72 := by
  have h1 : 1 * 2 ≤ a * b := Int.mul_le_mul h.1 g.1 (by omega) (by omega)
  have h2 : a * b ≤ 6 * 12 := Int.mul_le_mul h.2 g.2 (by omega) (by omega)
  exact ⟨w64 (by omega), by omega, by omega⟩
def newG (a b : Int) : Int × Int × Int × List S107 × List S107 := if (1 ≤ a ∧ a ≤ 6) ∧ (2 ≤ b ∧ b ≤ 12) then (0, a, b, List.replicate (a * b).toNat ⟨32, 0⟩, []) else (3, 0, 0, [], [])
theorem spec_l3New_eq {k : Nat} {a b : Int} (h : 1 ≤ a ∧ a ≤ 6) (g : 2 ≤ b ∧ b ≤ 12) (hk : 1100 ≤ k) : spec_l3New.f k a b = some (a, b, List.replicate (a * b).toNat ⟨32, 0⟩, []) := by
  obtain ⟨w, l, u⟩ := area h g
  unfold spec_l3New.f
  rw [w, spec_l3Blanks_eq (by omega) (by omega) hk]
  rfl
theorem impl_newGrid_eq {a b : Int} (h : 1 ≤ a ∧ a ≤ 6) (g : 2 ≤ b ∧ b ≤ 12) : impl_newGrid.f a b = some (a, b, List.replicate (a * b).toNat ⟨32, 0⟩, []) := by
  obtain ⟨w, l, u⟩ := area h g
  unfold impl_newGrid.f
  rw [w, impl_blanks_eq (by omega) (by omega)]
  rfl


theorem FnExactNewVt : laws_FnExactNewVt.Pure := by
  intro a b _ _
  refine ⟨100, ?_⟩
  by_cases h : (1 ≤ a ∧ a ≤ 6) ∧ (2 ≤ b ∧ b ≤ 12)
  · have key : ((List.range 6).all fun i => (List.range 11).all fun j => decide (laws_FnExactNewVt.f 100 ((i : Int) + 1) ((j : Int) + 2) = some true)) = true := by kernel_rfl
    have h1 := List.all_eq_true.1 key (a - 1).toNat (by simp; omega)
    have h2 := List.all_eq_true.1 h1 (b - 2).toNat (by simp; omega)
    have ea : (((a - 1).toNat : Nat) : Int) + 1 = a := by omega
    have eb : (((b - 2).toNat : Nat) : Int) + 2 = b := by omega
    rw [ea, eb] at h2
    exact of_decide_eq_true h2
  · unfold laws_FnExactNewVt.f spec_NewVt.f impl_NewVt.f
    rw [spec_l3Size_eq, impl_sizeOk_eq]
    simp only [Option.bind_some]
    rw [if_neg (by simpa using h), if_neg (by simpa using h)]
    kernel_rfl

end Go.Proofs.Ytagipnepckgdfaa.Pure
