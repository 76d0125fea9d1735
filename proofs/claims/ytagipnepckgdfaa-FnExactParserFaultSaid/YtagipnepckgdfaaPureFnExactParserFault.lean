/- ParserFault: for every parser the program's answer is the reference's, and the parser stays as it was. No condition. -/
import Derived.Test.YtagipnepckgdfaaPFnExactParserFaultx
import Derived.Test.YtagipnepckgdfaaPlain
namespace Go.Proofs.Ytagipnepckgdfaa.Pure
open Go Go.RowKit Go.Proofs.Ytagipnepckgdfaa.PFnExactParserFault Go.Proofs.YtagipnepckgdfaaW.PrintWords Go.Proofs.YtagipnepckgdfaaW.PrintLast Go.Proofs.YtagipnepckgdfaaPlain
set_option linter.unusedVariables false
set_option linter.unusedSimpArgs false

instance : DecidableEq S32 := fun a b => match a, b with
  | ⟨a0, a1, a2, a3⟩, ⟨b0, b1, b2, b3⟩ => decidable_of_iff (a0 = b0 ∧ a1 = b1 ∧ a2 = b2 ∧ a3 = b3) (by simp)

theorem spec_l1In_eq (x a b : Int) : spec_l1In.f x a b = some (decide (a ≤ x ∧ x ≤ b)) := by
  unfold spec_l1In.f
  split <;> (congr 1; simp_all) <;> omega

theorem impl_in_eq (x a b : Int) : impl_in.f x a b = some (decide (a ≤ x ∧ x ≤ b)) := by
  unfold impl_in.f
  split <;> (congr 1; simp_all) <;> omega

theorem laws_eqInt64S_eq {k : Nat} {xs ys : List Int} (hb : xs.length ≤ 4611686018427387904) (hk : xs.length < k) : laws_eqInt64S.f k xs ys = some (decide (xs = ys)) :=
  eq_fun (fun hl => eq_loop laws_eqInt64S.l0 rd (fun a b c => if a = b then c else some false) (fun xs i h => rd_nat h) (fun k xs ys i => by simp only [laws_eqInt64S.l0]) (fun a b c => rfl) hl hb _ k 0 rfl (Nat.zero_le _) (by omega))

theorem laws_toInt64S_eq {k : Nat} {xs : List Int} (hb : xs.length ≤ 17592186044416) (hk : xs.length < k) : laws_toInt64S.f k xs = some xs := by
  unfold laws_toInt64S.f
  rw [if_pos (by omega), if_pos (by omega)]
  have h := copy_loop laws_toInt64S.l0 id rd (fun a c => c a) (fun xs i h => rd_nat h) (fun k xs ys i => by simp only [laws_toInt64S.l0]) (fun a c => rfl) (xs := xs) (by omega) _ k 0 (List.replicate ((xs.length : Int)).toNat 0) (by simp) rfl (Nat.zero_le _) hk (by simp)
  simpa using h

theorem laws_szInt64S_ex {xs : List Int} {n : Int} (h : (xs.length : Int) ≤ 17592186044416) (hn : n ≤ 1048576) (h0 : 0 ≤ n) : ∃ t : Int, laws_szInt64S.f xs n = some t ∧ (t = -1 ∨ (t = n - (xs.length : Int) ∧ 0 ≤ t)) := by
  unfold laws_szInt64S.f
  rw [w64 (by omega)]
  split
  · exact ⟨-1, rfl, .inl rfl⟩
  · exact ⟨_, rfl, .inr ⟨rfl, by omega⟩⟩

theorem laws_szParser_ex {a b : Int} {p : Bool} {xs : List Int} {n : Int} (h : (xs.length : Int) ≤ 17592186044416) (hn : n ≤ 1048576) (h0 : 0 ≤ n) : ∃ t : Int, laws_szParser.f a b p xs n = some t ∧ (t = -1 ∨ (t = n - (xs.length : Int) ∧ 0 ≤ t)) := by
  obtain ⟨t, h1, h2⟩ := laws_szInt64S_ex (xs := xs) h hn h0
  unfold laws_szParser.f
  rw [h1]
  simp only [Option.bind_some]
  rcases h2 with rfl | ⟨h2, h3⟩
  · exact ⟨-1, by simp, .inl rfl⟩
  · exact ⟨t, by rw [if_neg (by omega)], .inr ⟨h2, h3⟩⟩

theorem laws_toParser_eq {k : Nat} {a b : Int} {p : Bool} {xs : List Int} (hb : xs.length ≤ 17592186044416) (hk : xs.length < k) : laws_toParser.f k a b p xs = some (a, b, p, xs) := by
  unfold laws_toParser.f
  rw [laws_toInt64S_eq hb hk]
  rfl

theorem laws_eqParser_eq {k : Nat} {a b a' b' : Int} {p p' : Bool} {xs ys : List Int} (hb : xs.length ≤ 4611686018427387904) (hk : xs.length < k) : laws_eqParser.f k a b p xs a' b' p' ys = some (decide (a = a' ∧ b = b' ∧ p = p' ∧ xs = ys)) := by
  unfold laws_eqParser.f
  rw [laws_eqInt64S_eq hb hk]
  simp only [Option.bind_some]
  by_cases h1 : a = a' <;> by_cases h2 : b = b' <;> by_cases h3 : p = p' <;> by_cases h4 : xs = ys <;> simp [h1, h2, h3, h4]

theorem impl_first2 {k : Nat} (hk : 3 ≤ k) (a b : Int) : impl_first.f k [a, b] = some (if a = 0 then b else a) := by
  obtain ⟨k, rfl⟩ : ∃ m, k = m + 3 := ⟨k - 3, by omega⟩
  have w0 : wrap64 1 = 1 := by unfold wrap64; omega
  have w1 : wrap64 2 = 2 := by unfold wrap64; omega
  by_cases h1 : a = 0
  · by_cases h2 : b = 0
    · simp [impl_first.f, impl_first.l0, rd, w0, w1, h1, h2]
    · simp [impl_first.f, impl_first.l0, rd, w0, w1, h1, h2]
  · simp [impl_first.f, impl_first.l0, rd, w0, w1, h1]

theorem impl_unless_eq (b : Bool) (x : Int) : impl_unless.f b x = some (if b = true then 0 else x) := by
  unfold impl_unless.f
  split <;> rfl

def badP (x : Int) : Bool := !decide (0 ≤ x ∧ x ≤ 999)
/-- What is wrong with parameters. -/
def parF (xs : List Int) : Int := if 1 ≤ xs.length ∧ xs.length ≤ 6 then (if xs.any badP = true then 3 else 0) else 2
theorem spec_l4Params_eq {k : Nat} {xs : List Int} (hb : xs.length ≤ 4611686018427387904) (hk : xs.length + 3 < k) : spec_l4Params.f k xs = some (parF xs) := by
  obtain ⟨k, rfl⟩ : ∃ m, k = m + 1 := ⟨k - 1, by omega⟩
  have h := any_loop spec_l4Params.l0 rd badP (3 : Int) 0 (fun xs i h => rd_nat h) (fun k xs i => by
    simp only [spec_l4Params.l0, spec_l1In_eq, Option.bind_some, badP]
    by_cases g : 0 ≤ rd xs i ∧ rd xs i ≤ 999 <;> simp [g]) hb xs.length k 0 (by omega) (Nat.zero_le _) (by omega)
  rw [List.drop_zero] at h
  have h' : spec_l4Params.l0 k xs 0 = some (if xs.any badP = true then 3 else 0) := h
  unfold spec_l4Params.f parF
  by_cases h1 : 1 ≤ xs.length
  · by_cases h2 : xs.length ≤ 6
    · have g1 : ¬ (xs.length : Int) < 1 := by omega
      have g2 : ¬ (xs.length : Int) > 6 := by omega
      simp only [spec_l4Params.j0, g1, g2, h1, h2, if_true, if_false, and_self, decide_false, h', Bool.false_eq_true]
    · have g1 : ¬ (xs.length : Int) < 1 := by omega
      have g2 : (xs.length : Int) > 6 := by omega
      simp only [spec_l4Params.j0, g1, g2, h1, h2, if_true, if_false, and_false, decide_true]
  · have g1 : (xs.length : Int) < 1 := by omega
    simp only [spec_l4Params.j0, g1, h1, if_true, if_false, false_and]
theorem impl_paramsCode_eq {k : Nat} {xs : List Int} (hb : xs.length ≤ 4611686018427387904) (hk : xs.length + 3 < k) : impl_paramsCode.f k xs = some (parF xs) := by
  obtain ⟨r, h, hr⟩ := index_loop slices_IndexFunc_int64_int64.l0 rd badP (fun xs i h => rd_nat h) (fun k xs n i => by
    simp only [slices_IndexFunc_int64_int64.l0, impl_paramsCode_1.f, impl_in_eq, Option.bind_some, badP]
    rfl) hb xs.length k 0 (by omega) (Nat.zero_le _) (by omega)
  rw [List.drop_zero] at hr
  unfold impl_paramsCode.f parF slices_ContainsFunc_int64_int64.f slices_IndexFunc_int64_int64.f
  have h' : slices_IndexFunc_int64_int64.l0 k xs (xs.length : Int) 0 = some r := h
  simp only [impl_in_eq, Option.bind_some, impl_unless_eq, h', hr]
  by_cases h1 : 1 ≤ xs.length ∧ xs.length ≤ 6
  · have g : 1 ≤ (xs.length : Int) ∧ (xs.length : Int) ≤ 6 := by omega
    rw [if_pos h1, if_pos (by simpa using g)]
    cases xs.any badP <;> rfl
  · have g : ¬ (1 ≤ (xs.length : Int) ∧ (xs.length : Int) ≤ 6) := by omega
    rw [if_neg h1, if_neg (by simpa using g)]

def parserF (a b : Int) (c : Bool) (xs : List Int) : Int :=
  if a = 2 then (if b = 0 then parF xs else 1) else if c = false ∧ xs.length = 0 then (if a = 3 then (if 1 ≤ b ∧ b ≤ 2 then 0 else 3) else if (a = 0 ∨ a = 1) ∧ b = 0 then 0 else 1) else 1
theorem spec_l4Fault_eq {k : Nat} {a b : Int} {c : Bool} {xs : List Int} (hb : xs.length ≤ 4611686018427387904) (hk : xs.length + 10 < k) : spec_l4Fault.f k a b c xs = some (parserF a b c xs) := by
  obtain ⟨k, rfl⟩ : ∃ m, k = m + 2 := ⟨k - 2, by omega⟩
  unfold spec_l4Fault.f parserF
  simp only [spec_l1In_eq, Option.bind_some, spec_l4Fault.j0, spec_l4Fault.j1]
  rw [spec_l4Params_eq hb (by omega)]
  have hl : ((xs.length : Int) > 0) ↔ ¬ xs.length = 0 := by omega
  simp only [Option.bind_some, hl]
  by_cases h2 : a = 2
  · subst h2
    by_cases hb : b = 0 <;> simp [hb]
  · by_cases h3 : a = 3
    · subst h3
      cases c <;> by_cases h0 : xs.length = 0 <;> by_cases h1 : 1 ≤ b ∧ b ≤ 2 <;> simp [h0, h1]
    · by_cases h4 : a = 0
      · subst h4
        cases c <;> by_cases h0 : xs.length = 0 <;> by_cases h1 : b = 0 <;> simp [h0, h1]
      · by_cases h5 : a = 1
        · subst h5
          cases c <;> by_cases h0 : xs.length = 0 <;> by_cases h1 : b = 0 <;> simp [h0, h1]
        · have h6 : ¬ (0 ≤ a ∧ a ≤ 3) := by omega
          simp [h2, h3, h4, h5, h6]
theorem impl_ParserFault_eq {k : Nat} {a b : Int} {c : Bool} {xs : List Int} (hb : xs.length ≤ 4611686018427387904) (hk : xs.length + 10 < k) : impl_ParserFault.f k a b c xs = some (parserF a b c xs) := by
  obtain ⟨k, rfl⟩ : ∃ m, k = m + 2 := ⟨k - 2, by omega⟩
  unfold impl_ParserFault.f parserF
  simp only [impl_isSet.f, impl_in_eq, impl_unless_eq, Option.bind_some, impl_ParserFault.j0, impl_ParserFault.j1]
  rw [impl_paramsCode_eq hb (by omega)]
  have hl : ((xs.length : Int) = 0) ↔ xs.length = 0 := by omega
  simp only [Option.bind_some, hl, impl_first2 (show 3 ≤ k by omega)]
  by_cases h2 : a = 2
  · subst h2
    by_cases hb : b = 0 <;> simp [hb]
  · by_cases h3 : a = 3
    · subst h3
      cases c <;> by_cases h0 : xs.length = 0 <;> by_cases h1 : 1 ≤ b ∧ b ≤ 2 <;> simp [h0, h1]
    · by_cases h4 : a = 0
      · subst h4
        cases c <;> by_cases h0 : xs.length = 0 <;> by_cases h1 : b = 0 <;> simp [h0, h1]
      · by_cases h5 : a = 1
        · subst h5
          cases c <;> by_cases h0 : xs.length = 0 <;> by_cases h1 : b = 0 <;> simp [h0, h1]
        · simp [h2, h3, h4, h5]

theorem FnExactParserFault : ∀ (x0 : S32), (((Lit.int .i64 x0.f0).wf = true) ∧ ((Lit.int .i64 x0.f1).wf = true) ∧ (True) ∧ (x0.f3.length ≤ maxLen ∧ x0.f3.length * 8 ≤ 140737488351232 ∧ ∀ y ∈ x0.f3, (Lit.int .i64 y).wf = true)) → ∃ k, laws_FnExactParserFault.f k x0.f0 x0.f1 x0.f2 x0.f3 = some true := by
  intro x hx
  obtain ⟨_, _, _, hm, hb, hw⟩ := hx
  refine ⟨x.f3.length + 100, ?_⟩
  unfold laws_FnExactParserFault.f
  obtain ⟨t, ht, h⟩ := laws_szParser_ex (a := x.f0) (b := x.f1) (p := x.f2) (xs := x.f3) (n := 1048576) (by omega) (by omega) (by omega)
  rw [ht]
  simp only [Option.bind_some]
  rcases h with rfl | ⟨h, h0⟩
  · simp
  rw [if_neg (by omega), laws_toParser_eq (by omega) (by omega)]
  simp only [Option.bind_some]
  unfold spec_ParserFault.f
  rw [spec_l4Fault_eq (by omega) (by omega), impl_ParserFault_eq (by omega) (by omega)]
  simp only [Option.bind_some, if_true]
  rw [laws_eqParser_eq (by omega) (by omega)]
  simp

end Go.Proofs.Ytagipnepckgdfaa.Pure
