/- SameParsers: for every two parsers the program's answer is the reference's, and both stay as they were. No condition. -/
import Derived.Test.YtagipnepckgdfaaPFnExactSameParsersx
import Derived.Test.YtagipnepckgdfaaPlain
namespace Go.Proofs.Ytagipnepckgdfaa.Pure
open Go Go.RowKit Go.Proofs.Ytagipnepckgdfaa.PFnExactSameParsers Go.Proofs.YtagipnepckgdfaaW.PrintWords Go.Proofs.YtagipnepckgdfaaW.PrintLast Go.Proofs.YtagipnepckgdfaaPlain
set_option linter.unusedVariables false
set_option linter.unusedSimpArgs false

instance : DecidableEq S32 := fun a b => match a, b with
  | ⟨a0, a1, a2, a3⟩, ⟨b0, b1, b2, b3⟩ => decidable_of_iff (a0 = b0 ∧ a1 = b1 ∧ a2 = b2 ∧ a3 = b3) (by simp)

theorem laws_eqInt64S_eq {k : Nat} {xs ys : List Int} (hb : xs.length ≤ 4611686018427387904) (hk : xs.length < k) : laws_eqInt64S.f k xs ys = some (decide (xs = ys)) :=
  eq_fun (fun hl => eq_loop laws_eqInt64S.l0 rd (fun a b c => if a = b then c else some false) (fun xs i h => rd_nat h) (fun k xs ys i => by simp only [laws_eqInt64S.l0]) (fun a b c => rfl) hl hb _ k 0 rfl (Nat.zero_le _) (by omega))

theorem laws_toInt64S_eq {k : Nat} {xs : List Int} (hb : xs.length ≤ 17592186044416) (hk : xs.length < k) : laws_toInt64S.f k xs = some xs := by
  unfold laws_toInt64S.f
  rw [if_pos (by omega), if_pos (by omega)]
  have h := copy_loop laws_toInt64S.l0 id rd (fun a c => c a) (fun xs i h => rd_nat h) (fun k xs ys i => by simp only [laws_toInt64S.l0]) (fun a c => rfl) (xs := xs) (by omega) _ k 0 (List.replicate ((xs.length : Int)).toNat 0) (by simp) rfl (Nat.zero_le _) hk (by simp)
  simpa using h

theorem laws_szInt64S_ex {xs : List Int} {n : Int} (h : (xs.length : Int) ≤ 17592186044416) (hn : n ≤ 1048576) (h0 : 0 ≤ n) : ∃ t : Int, laws_szInt64S.f xs n = some t ∧ (t = -1 ∨ (t = n - (xs.length : Int) ∧ 0 ≤ t)) := by
  unfold laws_szInt64S.f
  rw [w64 (by omega)]
  split
  · exact ⟨-1, rfl, .inl rfl⟩
  · exact ⟨_, rfl, .inr ⟨rfl, by omega⟩⟩

theorem laws_szParser_ex {a b : Int} {p : Bool} {xs : List Int} {n : Int} (h : (xs.length : Int) ≤ 17592186044416) (hn : n ≤ 1048576) (h0 : 0 ≤ n) : ∃ t : Int, laws_szParser.f a b p xs n = some t ∧ (t = -1 ∨ (t = n - (xs.length : Int) ∧ 0 ≤ t)) := by
  obtain ⟨t, h1, h2⟩ := laws_szInt64S_ex (xs := xs) h hn h0
  unfold laws_szParser.f
  rw [h1]
  simp only [Option.bind_some]
  rcases h2 with rfl | ⟨h2, h3⟩
  · exact ⟨-1, by simp, .inl rfl⟩
  · exact ⟨t, by rw [if_neg (by omega)], .inr ⟨h2, h3⟩⟩

theorem laws_toParser_eq {k : Nat} {a b : Int} {p : Bool} {xs : List Int} (hb : xs.length ≤ 17592186044416) (hk : xs.length < k) : laws_toParser.f k a b p xs = some (a, b, p, xs) := by
  unfold laws_toParser.f
  rw [laws_toInt64S_eq hb hk]
  rfl

theorem laws_eqParser_eq {k : Nat} {a b a' b' : Int} {p p' : Bool} {xs ys : List Int} (hb : xs.length ≤ 4611686018427387904) (hk : xs.length < k) : laws_eqParser.f k a b p xs a' b' p' ys = some (decide (a = a' ∧ b = b' ∧ p = p' ∧ xs = ys)) := by
  unfold laws_eqParser.f
  rw [laws_eqInt64S_eq hb hk]
  simp only [Option.bind_some]
  by_cases h1 : a = a' <;> by_cases h2 : b = b' <;> by_cases h3 : p = p' <;> by_cases h4 : xs = ys <;> simp [h1, h2, h3, h4]

theorem spec_l4Ints_eq {k : Nat} {xs ys : List Int} (hb : xs.length ≤ 4611686018427387904) (hk : xs.length < k) : spec_l4Ints.f k xs ys = some (decide (xs = ys)) :=
  eq_fun (fun hl => eq_loop spec_l4Ints.l0 rd (fun a b c => if a = b then c else some false) (fun xs i h => rd_nat h) (fun k xs ys i => by simp only [spec_l4Ints.l0]) (fun a b c => rfl) hl hb _ k 0 rfl (Nat.zero_le _) (by omega))

theorem slices_Equal_int64_int64_eq {k : Nat} {xs ys : List Int} (hb : xs.length ≤ 4611686018427387904) (hk : xs.length < k) : slices_Equal_int64_int64.f k xs ys = some (decide (xs = ys)) :=
  eq_fun (l := fun k xs ys i => slices_Equal_int64_int64.l0 k xs ys (xs.length : Int) i) (fun hl => eq_loop (fun k xs ys i => slices_Equal_int64_int64.l0 k xs ys (xs.length : Int) i) rd (fun a b c => if a = b then c else some false) (fun xs i h => rd_nat h) (fun k xs ys i => by
    by_cases h : i < (xs.length : Int)
    · simp only [slices_Equal_int64_int64.l0, if_pos h]
    · simp only [slices_Equal_int64_int64.l0, if_neg h]) (fun a b c => by
    rfl) hl hb _ k 0 rfl (Nat.zero_le _) (by omega))

theorem FnExactSameParsers : ∀ (x0 : S32) (x1 : S32), (((Lit.int .i64 x0.f0).wf = true) ∧ ((Lit.int .i64 x0.f1).wf = true) ∧ (True) ∧ (x0.f3.length ≤ maxLen ∧ x0.f3.length * 8 ≤ 140737488351232 ∧ ∀ y ∈ x0.f3, (Lit.int .i64 y).wf = true)) → (((Lit.int .i64 x1.f0).wf = true) ∧ ((Lit.int .i64 x1.f1).wf = true) ∧ (True) ∧ (x1.f3.length ≤ maxLen ∧ x1.f3.length * 8 ≤ 140737488351232 ∧ ∀ y ∈ x1.f3, (Lit.int .i64 y).wf = true)) → ∃ k, laws_FnExactSameParsers.f k x0.f0 x0.f1 x0.f2 x0.f3 x1.f0 x1.f1 x1.f2 x1.f3 = some true := by
  intro x y hx hy
  obtain ⟨_, _, _, hm, hb, hw⟩ := hx
  obtain ⟨_, _, _, hm', hb', hw'⟩ := hy
  refine ⟨x.f3.length + y.f3.length + 100, ?_⟩
  unfold laws_FnExactSameParsers.f
  obtain ⟨t, ht, h⟩ := laws_szParser_ex (a := x.f0) (b := x.f1) (p := x.f2) (xs := x.f3) (n := 1048576) (by omega) (by omega) (by omega)
  rw [ht]
  simp only [Option.bind_some]
  rcases h with rfl | ⟨h, h0⟩
  · simp
  rw [if_neg (by omega)]
  obtain ⟨s, hs, g⟩ := laws_szParser_ex (a := y.f0) (b := y.f1) (p := y.f2) (xs := y.f3) (n := t) (by omega) (by omega) (by omega)
  rw [hs]
  simp only [Option.bind_some]
  rcases g with rfl | ⟨g, g0⟩
  · simp
  rw [if_neg (by omega), laws_toParser_eq (by omega) (by omega), laws_toParser_eq (by omega) (by omega)]
  simp only [Option.bind_some]
  have h1 : spec_SameParsers.f (x.f3.length + y.f3.length + 100) x.f0 x.f1 x.f2 x.f3 y.f0 y.f1 y.f2 y.f3 = some (decide (x.f0 = y.f0 ∧ x.f1 = y.f1 ∧ x.f2 = y.f2 ∧ x.f3 = y.f3)) := by
    unfold spec_SameParsers.f spec_l4Same.f
    rw [spec_l4Ints_eq (by omega) (by omega)]
    by_cases e1 : x.f0 = y.f0 <;> by_cases e2 : x.f1 = y.f1 <;> by_cases e3 : x.f2 = y.f2 <;> simp [e1, e2, e3]
  have h2 : impl_SameParsers.f (x.f3.length + y.f3.length + 100) x.f0 x.f1 x.f2 x.f3 y.f0 y.f1 y.f2 y.f3 = some (decide (x.f0 = y.f0 ∧ x.f1 = y.f1 ∧ x.f2 = y.f2 ∧ x.f3 = y.f3)) := by
    unfold impl_SameParsers.f
    rw [slices_Equal_int64_int64_eq (by omega) (by omega)]
    by_cases e1 : x.f0 = y.f0 <;> by_cases e2 : x.f1 = y.f1 <;> by_cases e3 : x.f2 = y.f2 <;> simp [e1, e2, e3]
  rw [h1, h2]
  simp only [Option.bind_some]
  rw [laws_eqParser_eq (by omega) (by omega), laws_eqParser_eq (by omega) (by omega)]
  simp

end Go.Proofs.Ytagipnepckgdfaa.Pure
