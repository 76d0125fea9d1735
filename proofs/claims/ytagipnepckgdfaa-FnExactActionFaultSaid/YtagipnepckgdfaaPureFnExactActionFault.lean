/- ActionFault: for every action the program's answer is the reference's, and the action stays as it was. No condition. -/
import Derived.Test.YtagipnepckgdfaaPFnExactActionFaultx
import Derived.Test.YtagipnepckgdfaaPlain
namespace Go.Proofs.Ytagipnepckgdfaa.Pure
open Go Go.RowKit Go.Proofs.Ytagipnepckgdfaa.PFnExactActionFault Go.Proofs.YtagipnepckgdfaaW.PrintWords Go.Proofs.YtagipnepckgdfaaW.PrintLast Go.Proofs.YtagipnepckgdfaaPlain
set_option linter.unusedVariables false
set_option linter.unusedSimpArgs false

instance : DecidableEq S24 := fun a b => match a, b with
  | ⟨a0, a1, a2, a3, a4⟩, ⟨b0, b1, b2, b3, b4⟩ => decidable_of_iff (a0 = b0 ∧ a1 = b1 ∧ a2 = b2 ∧ a3 = b3 ∧ a4 = b4) (by simp)

theorem spec_l1In_eq (x a b : Int) : spec_l1In.f x a b = some (decide (a ≤ x ∧ x ≤ b)) := by
  unfold spec_l1In.f
  split <;> (congr 1; simp_all) <;> omega

theorem impl_in_eq (x a b : Int) : impl_in.f x a b = some (decide (a ≤ x ∧ x ≤ b)) := by
  unfold impl_in.f
  split <;> (congr 1; simp_all) <;> omega

theorem spec_l1Char_eq (x : Int) : spec_l1Char.f x = some (isCh x) := by
  unfold spec_l1Char.f isCh
  simp only [spec_l1In_eq, Option.bind_some]
  by_cases h : 0 ≤ x ∧ x ≤ 55295
  · simp [h]
  · rw [if_neg (by simpa using h)]
    congr 1
    simp only [h, false_or]

theorem impl_isChar_eq (x : Int) : impl_isChar.f x = some (isCh x) := by
  unfold impl_isChar.f isCh
  simp only [impl_in_eq, Option.bind_some]
  by_cases h : 0 ≤ x ∧ x ≤ 65535
  · rw [if_pos (by simpa using h), ← decide_not]
    congr 1
    refine decide_eq_decide.2 ?_
    omega
  · rw [if_neg (by simpa using h)]
    congr 1
    symm
    rw [decide_eq_false_iff_not]
    omega

theorem laws_eqInt64S_eq {k : Nat} {xs ys : List Int} (hb : xs.length ≤ 4611686018427387904) (hk : xs.length < k) : laws_eqInt64S.f k xs ys = some (decide (xs = ys)) :=
  eq_fun (fun hl => eq_loop laws_eqInt64S.l0 rd (fun a b c => if a = b then c else some false) (fun xs i h => rd_nat h) (fun k xs ys i => by simp only [laws_eqInt64S.l0]) (fun a b c => rfl) hl hb _ k 0 rfl (Nat.zero_le _) (by omega))

theorem laws_toInt64S_eq {k : Nat} {xs : List Int} (hb : xs.length ≤ 17592186044416) (hk : xs.length < k) : laws_toInt64S.f k xs = some xs := by
  unfold laws_toInt64S.f
  rw [if_pos (by omega), if_pos (by omega)]
  have h := copy_loop laws_toInt64S.l0 id rd (fun a c => c a) (fun xs i h => rd_nat h) (fun k xs ys i => by simp only [laws_toInt64S.l0]) (fun a c => rfl) (xs := xs) (by omega) _ k 0 (List.replicate ((xs.length : Int)).toNat 0) (by simp) rfl (Nat.zero_le _) hk (by simp)
  simpa using h

theorem laws_szInt64S_ex {xs : List Int} {n : Int} (h : (xs.length : Int) ≤ 17592186044416) (hn : n ≤ 1048576) (h0 : 0 ≤ n) : ∃ t : Int, laws_szInt64S.f xs n = some t ∧ (t = -1 ∨ (t = n - (xs.length : Int) ∧ 0 ≤ t)) := by
  unfold laws_szInt64S.f
  rw [w64 (by omega)]
  split
  · exact ⟨-1, rfl, .inl rfl⟩
  · exact ⟨_, rfl, .inr ⟨rfl, by omega⟩⟩

theorem impl_unless_eq (b : Bool) (x : Int) : impl_unless.f b x = some (if b = true then 0 else x) := by
  unfold impl_unless.f
  split <;> rfl

def badP (x : Int) : Bool := !decide (0 ≤ x ∧ x ≤ 999)
/-- What is wrong with parameters. -/
def parF (xs : List Int) : Int := if 1 ≤ xs.length ∧ xs.length ≤ 6 then (if xs.any badP = true then 3 else 0) else 2
theorem spec_l4Params_eq {k : Nat} {xs : List Int} (hb : xs.length ≤ 4611686018427387904) (hk : xs.length + 3 < k) : spec_l4Params.f k xs = some (parF xs) := by
  obtain ⟨k, rfl⟩ : ∃ m, k = m + 1 := ⟨k - 1, by omega⟩
  have h := any_loop spec_l4Params.l0 rd badP (3 : Int) 0 (fun xs i h => rd_nat h) (fun k xs i => by
    simp only [spec_l4Params.l0, spec_l1In_eq, Option.bind_some, badP]
    by_cases g : 0 ≤ rd xs i ∧ rd xs i ≤ 999 <;> simp [g]) hb xs.length k 0 (by omega) (Nat.zero_le _) (by omega)
  rw [List.drop_zero] at h
  have h' : spec_l4Params.l0 k xs 0 = some (if xs.any badP = true then 3 else 0) := h
  unfold spec_l4Params.f parF
  by_cases h1 : 1 ≤ xs.length
  · by_cases h2 : xs.length ≤ 6
    · have g1 : ¬ (xs.length : Int) < 1 := by omega
      have g2 : ¬ (xs.length : Int) > 6 := by omega
      simp only [spec_l4Params.j0, g1, g2, h1, h2, if_true, if_false, and_self, decide_false, h', Bool.false_eq_true]
    · have g1 : ¬ (xs.length : Int) < 1 := by omega
      have g2 : (xs.length : Int) > 6 := by omega
      simp only [spec_l4Params.j0, g1, g2, h1, h2, if_true, if_false, and_false, decide_true]
  · have g1 : (xs.length : Int) < 1 := by omega
    simp only [spec_l4Params.j0, g1, h1, if_true, if_false, false_and]
theorem impl_paramsCode_eq {k : Nat} {xs : List Int} (hb : xs.length ≤ 4611686018427387904) (hk : xs.length + 3 < k) : impl_paramsCode.f k xs = some (parF xs) := by
  obtain ⟨r, h, hr⟩ := index_loop slices_IndexFunc_int64_int64.l0 rd badP (fun xs i h => rd_nat h) (fun k xs n i => by
    simp only [slices_IndexFunc_int64_int64.l0, impl_paramsCode_1.f, impl_in_eq, Option.bind_some, badP]
    rfl) hb xs.length k 0 (by omega) (Nat.zero_le _) (by omega)
  rw [List.drop_zero] at hr
  unfold impl_paramsCode.f parF slices_ContainsFunc_int64_int64.f slices_IndexFunc_int64_int64.f
  have h' : slices_IndexFunc_int64_int64.l0 k xs (xs.length : Int) 0 = some r := h
  simp only [impl_in_eq, Option.bind_some, impl_unless_eq, h', hr]
  by_cases h1 : 1 ≤ xs.length ∧ xs.length ≤ 6
  · have g : 1 ≤ (xs.length : Int) ∧ (xs.length : Int) ≤ 6 := by omega
    rw [if_pos h1, if_pos (by simpa using g)]
    cases xs.any badP <;> rfl
  · have g : ¬ (1 ≤ (xs.length : Int) ∧ (xs.length : Int) ≤ 6) := by omega
    rw [if_neg h1, if_neg (by simpa using g)]

theorem spec_l4Shown_eq (x : Int) : spec_l4Shown.f x = some (isCh x && decide (x ≥ 32) && (x != 127)) := by
  unfold spec_l4Shown.f
  simp only [spec_l1Char_eq, Option.bind_some]
  cases isCh x <;> by_cases h : x ≥ 32 <;> simp [h]

def showsB (x : Int) : Bool := isCh x && decide (x ≥ 32) && (x != 127)
theorem impl_shows_eq (x : Int) : impl_shows.f x = some (isCh x && decide (x ≥ 32) && (x != 127)) := by
  unfold impl_shows.f
  simp only [impl_isChar_eq, Option.bind_some]
  cases isCh x <;> by_cases h : x ≥ 32 <;> simp [h]

/-- What is wrong with an action. -/
def formB (a b c : Int) (d : Bool) (n : Nat) : Bool := decide (0 ≤ a ∧ a ≤ 5) && (decide (a ≠ 0) || decide (b = 0)) && (decide (a = 5) || decide (c = 0)) && (decide (a = 4) || (!d && decide (n = 0)))
def charB (a b c : Int) : Bool := if a = 1 then showsB b else if a = 2 then (decide (0 ≤ b ∧ b ≤ 31) && decide (b ≠ 24) && decide (b ≠ 26) && decide (b ≠ 27)) else if a = 3 then (decide (48 ≤ b ∧ b ≤ 126) && decide (b ≠ 91)) else if a = 5 then (showsB b && decide (1 ≤ c ∧ c ≤ 2)) else if a = 4 then decide (64 ≤ b ∧ b ≤ 126) else true
def actF (a b c : Int) (d : Bool) (xs : List Int) : Int := if formB a b c d xs.length = true then (if charB a b c = true then (if a = 4 then parF xs else 0) else 3) else 1
theorem spec_l4Form_eq (a b c : Int) (d : Bool) (xs : List Int) : spec_l4Form.f a b c d xs = some (formB a b c d xs.length) := by
  unfold spec_l4Form.f formB
  simp only [spec_l1In_eq, Option.bind_some]
  have hl : ((xs.length : Int) == 0) = decide (xs.length = 0) := by
    cases xs <;> simp
    omega
  rw [hl]
  by_cases h : 0 ≤ a ∧ a ≤ 5
  · by_cases h0 : a = 0
    · subst h0
      by_cases hb : b = 0 <;> by_cases hc : c = 0 <;> cases d <;> simp [hb, hc]
    · by_cases h5 : a = 5
      · subst h5
        cases d <;> simp
      · by_cases h4 : a = 4
        · subst h4
          by_cases hc : c = 0 <;> simp [hc]
        · by_cases hc : c = 0 <;> cases d <;> simp [h, hc, h0, h4, h5]
  · simp [h]
theorem spec_l4Char_eq (a b c : Int) (d : Bool) (xs : List Int) : spec_l4Char.f a b c d xs = some (charB a b c) := by
  unfold spec_l4Char.f charB showsB
  simp only [spec_l1In_eq, spec_l4Shown_eq, Option.bind_some]
  by_cases h1 : a = 1
  · simp [h1]
  · by_cases h2 : a = 2
    · subst h2
      by_cases g1 : 0 ≤ b ∧ b ≤ 31 <;> by_cases g2 : b = 24 <;> by_cases g3 : b = 26 <;> simp [g1, g2, g3]
      all_goals first | rfl | (by_cases g4 : b = 27 <;> simp [g4])
    · by_cases h3 : a = 3
      · subst h3
        by_cases g1 : 48 ≤ b ∧ b ≤ 126 <;> by_cases g2 : b = 91 <;> simp [g1, g2]
      · by_cases h5 : a = 5
        · subst h5
          cases (isCh b && decide (b ≥ 32) && (b != 127)) <;> simp
        · by_cases h4 : a = 4
          · subst h4
            simp
          · simp [h1, h2, h3, h4, h5]
theorem spec_l4Action_eq {k : Nat} {a b c : Int} {d : Bool} {xs : List Int} (hb : xs.length ≤ 4611686018427387904) (hk : xs.length + 10 < k) : spec_l4Action.f k a b c d xs = some (actF a b c d xs) := by
  unfold spec_l4Action.f actF
  simp only [spec_l4Form_eq, spec_l4Char_eq, spec_l4Params_eq hb (show xs.length + 3 < k by omega), Option.bind_some]
  split <;> (try split) <;> (try split) <;> rfl
theorem impl_charOk_eq {k : Nat} (hk : 1 ≤ k) (a b : Int) (h : 0 ≤ a ∧ a ≤ 5) (h0 : a = 0 → b = 0) : impl_charOk.f k a b = some (charB a b 1) := by
  obtain ⟨k, rfl⟩ : ∃ m, k = m + 1 := ⟨k - 1, by omega⟩
  unfold impl_charOk.f charB showsB
  simp only [impl_charOk.j0, impl_in_eq, impl_shows_eq, Option.bind_some]
  by_cases h1 : a = 1
  · simp [h1]
  · by_cases h2 : a = 2
    · subst h2
      by_cases g1 : 0 ≤ b ∧ b ≤ 31 <;> by_cases g2 : b = 24 <;> by_cases g3 : b = 26 <;> simp [g1, g2, g3]
      all_goals first | rfl | (by_cases g4 : b = 27 <;> simp [g4])
    · by_cases h3 : a = 3
      · subst h3
        by_cases g1 : 48 ≤ b ∧ b ≤ 126 <;> by_cases g2 : b = 91 <;> simp [g1, g2]
      · by_cases h5 : a = 5
        · subst h5
          simp
        · by_cases h4 : a = 4
          · subst h4
            simp
          · have : a = 0 := by omega
            subst this
            simp [h0 rfl]
theorem charB_set (a b c : Int) (h : a ≠ 5) : charB a b c = charB a b 1 := by
  unfold charB
  simp [h]
theorem charB_five (b c : Int) : charB 5 b c = (charB 5 b 1 && decide (1 ≤ c ∧ c ≤ 2)) := by
  unfold charB
  simp
theorem impl_ActionFault_eq {k : Nat} {a b c : Int} {d : Bool} {xs : List Int} (hb : xs.length ≤ 4611686018427387904) (hk : xs.length + 10 < k) : impl_ActionFault.f k a b c d xs = some (actF a b c d xs) := by
  obtain ⟨k, rfl⟩ : ∃ m, k = m + 2 := ⟨k - 2, by omega⟩
  unfold impl_ActionFault.f actF formB
  have hl : ((xs.length : Int) = 0) ↔ xs.length = 0 := by omega
  have hp : ∀ m : Nat, xs.length + 3 < m → impl_paramsCode.f m xs = some (parF xs) := fun m h => impl_paramsCode_eq hb h
  simp only [impl_isSet.f, impl_in_eq, impl_unless_eq, Option.bind_some, impl_ActionFault.j0, impl_ActionFault.j1, hl, hp k (by omega)]
  by_cases h : 0 ≤ a ∧ a ≤ 5
  · by_cases h0 : a = 0
    · subst h0
      by_cases hb0 : b = 0
      · subst hb0
        rw [impl_charOk_eq (by omega) 0 0 (by omega) (fun _ => rfl), charB_set 0 0 c (by omega)]
        cases charB 0 0 1 <;> by_cases hc : c = 0 <;> cases d <;> by_cases hx : xs.length = 0 <;> simp [hc, hx]
      · by_cases hc : c = 0 <;> cases d <;> by_cases hx : xs.length = 0 <;> simp [hb0, hc, hx]
    · rw [impl_charOk_eq (by omega) a b h (fun e => absurd e h0)]
      by_cases h5 : a = 5
      · subst h5
        rw [charB_five b c]
        cases charB 5 b 1 <;> cases d <;> by_cases hx : xs.length = 0 <;> by_cases hc : 1 ≤ c ∧ c ≤ 2 <;> simp [hx, hc]
      · rw [charB_set a b c h5]
        by_cases h4 : a = 4
        · subst h4
          cases charB 4 b 1 <;> by_cases hc : c = 0 <;> simp [hc]
        · cases charB a b 1 <;> cases d <;> by_cases hx : xs.length = 0 <;> by_cases hc : c = 0 <;> simp [h, hx, hc, h0, h4, h5]
  · have h4 : a ≠ 4 := by omega
    simp [h]

theorem laws_szAction_ex {a b e : Int} {p : Bool} {xs : List Int} {n : Int} (h : (xs.length : Int) ≤ 17592186044416) (hn : n ≤ 1048576) (h0 : 0 ≤ n) : ∃ t : Int, laws_szAction.f a b e p xs n = some t ∧ (t = -1 ∨ (t = n - (xs.length : Int) ∧ 0 ≤ t)) := by
  obtain ⟨t, h1, h2⟩ := laws_szInt64S_ex (xs := xs) h hn h0
  unfold laws_szAction.f
  rw [h1]
  simp only [Option.bind_some]
  rcases h2 with rfl | ⟨h2, h3⟩
  · exact ⟨-1, by simp, .inl rfl⟩
  · exact ⟨t, by rw [if_neg (by omega)], .inr ⟨h2, h3⟩⟩

theorem laws_toAction_eq {k : Nat} {a b e : Int} {p : Bool} {xs : List Int} (hb : xs.length ≤ 17592186044416) (hk : xs.length < k) : laws_toAction.f k a b e p xs = some (a, b, e, p, xs) := by
  unfold laws_toAction.f
  rw [laws_toInt64S_eq hb hk]
  rfl

theorem laws_eqAction_eq {k : Nat} {a b e a' b' e' : Int} {p p' : Bool} {xs xs' : List Int} (hb : xs.length ≤ 4611686018427387904) (hk : xs.length < k) : laws_eqAction.f k a b e p xs a' b' e' p' xs' = some (decide (a = a' ∧ b = b' ∧ e = e' ∧ p = p' ∧ xs = xs')) := by
  unfold laws_eqAction.f
  rw [laws_eqInt64S_eq hb hk]
  simp only [Option.bind_some]
  by_cases h1 : a = a' <;> by_cases h2 : b = b' <;> by_cases h3 : e = e' <;> by_cases h4 : p = p' <;> by_cases h5 : xs = xs' <;> simp [h1, h2, h3, h4, h5]

theorem FnExactActionFault : ∀ (x0 : S24), (((Lit.int .i64 x0.f0).wf = true) ∧ ((Lit.int .i64 x0.f1).wf = true) ∧ ((Lit.int .i64 x0.f2).wf = true) ∧ (True) ∧ (x0.f4.length ≤ maxLen ∧ x0.f4.length * 8 ≤ 140737488351232 ∧ ∀ y ∈ x0.f4, (Lit.int .i64 y).wf = true)) → ∃ k, laws_FnExactActionFault.f k x0.f0 x0.f1 x0.f2 x0.f3 x0.f4 = some true := by
  intro x hx
  obtain ⟨_, _, _, _, hm, hb, hw⟩ := hx
  refine ⟨x.f4.length + 100, ?_⟩
  unfold laws_FnExactActionFault.f
  obtain ⟨t, ht, h⟩ := laws_szAction_ex (a := x.f0) (b := x.f1) (e := x.f2) (p := x.f3) (xs := x.f4) (n := 1048576) (by omega) (by omega) (by omega)
  rw [ht]
  simp only [Option.bind_some]
  rcases h with rfl | ⟨h, h0⟩
  · simp
  rw [if_neg (by omega), laws_toAction_eq (by omega) (by omega)]
  simp only [Option.bind_some]
  unfold spec_ActionFault.f
  rw [spec_l4Action_eq (by omega) (by omega), impl_ActionFault_eq (by omega) (by omega)]
  simp only [Option.bind_some, if_true]
  rw [laws_eqAction_eq (by omega) (by omega)]
  simp

end Go.Proofs.Ytagipnepckgdfaa.Pure
