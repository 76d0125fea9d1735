/- ActionText: for every action the program's text is the reference's, and the action stays as it was. No condition. -/
import Derived.Test.YtpoafgokngpglaaDoorPFnExactActionTextx
import Derived.Test.YtpoafgokngpglaaDoorPlain
import Derived.Lib.ItoaLen
import Derived.Lib.ItoaMem
import Derived.Lib.Join
namespace Go.Proofs.YtpoafgokngpglaaDoor.Pure
open Go Go.RowKit Go.Proofs.YtpoafgokngpglaaDoor.PFnExactActionText Go.Proofs.YtpoafgokngpglaaDoorW.PrintWords Go.Proofs.YtpoafgokngpglaaDoorW.PrintLast Go.Proofs.YtpoafgokngpglaaDoorPlain
set_option linter.unusedVariables false
set_option linter.unusedSimpArgs false

instance : DecidableEq S62 := fun a b => match a, b with
  | ⟨a0, a1, a2, a3, a4⟩, ⟨b0, b1, b2, b3, b4⟩ => decidable_of_iff (a0 = b0 ∧ a1 = b1 ∧ a2 = b2 ∧ a3 = b3 ∧ a4 = b4) (by simp)

theorem spec_l1In_eq (x a b : Int) : spec_l1In.f x a b = some (decide (a ≤ x ∧ x ≤ b)) := by
  unfold spec_l1In.f
  split <;> (congr 1; simp_all) <;> omega

theorem impl_in_eq (x a b : Int) : impl_in.f x a b = some (decide (a ≤ x ∧ x ≤ b)) := by
  unfold impl_in.f
  split <;> (congr 1; simp_all) <;> omega

theorem spec_l1Char_eq (x : Int) : spec_l1Char.f x = some (isCh x) := by
  unfold spec_l1Char.f isCh
  simp only [spec_l1In_eq, Option.bind_some]
  by_cases h : 0 ≤ x ∧ x ≤ 55295
  · simp [h]
  · rw [if_neg (by simpa using h)]
    congr 1
    simp only [h, false_or]

theorem impl_isChar_eq (x : Int) : impl_isChar.f x = some (isCh x) := by
  unfold impl_isChar.f isCh
  simp only [impl_in_eq, Option.bind_some]
  by_cases h : 0 ≤ x ∧ x ≤ 65535
  · rw [if_pos (by simpa using h), ← decide_not]
    congr 1
    refine decide_eq_decide.2 ?_
    omega
  · rw [if_neg (by simpa using h)]
    congr 1
    symm
    rw [decide_eq_false_iff_not]
    omega

theorem laws_eqInt64S_eq {k : Nat} {xs ys : List Int} (hb : xs.length ≤ 4611686018427387904) (hk : xs.length < k) : laws_eqInt64S.f k xs ys = some (decide (xs = ys)) :=
  eq_fun (fun hl => eq_loop laws_eqInt64S.l0 rd (fun a b c => if a = b then c else some false) (fun xs i h => rd_nat h) (fun k xs ys i => by simp only [laws_eqInt64S.l0]) (fun a b c => rfl) hl hb _ k 0 rfl (Nat.zero_le _) (by omega))

theorem laws_toInt64S_eq {k : Nat} {xs : List Int} (hb : xs.length ≤ 17592186044416) (hk : xs.length < k) : laws_toInt64S.f k xs = some xs := by
  unfold laws_toInt64S.f
  rw [if_pos (by omega), if_pos (by omega)]
  have h := copy_loop laws_toInt64S.l0 id rd (fun a c => c a) (fun xs i h => rd_nat h) (fun k xs ys i => by simp only [laws_toInt64S.l0]) (fun a c => rfl) (xs := xs) (by omega) _ k 0 (List.replicate ((xs.length : Int)).toNat 0) (by simp) rfl (Nat.zero_le _) hk (by simp)
  simpa using h

theorem laws_szInt64S_ex {xs : List Int} {n : Int} (h : (xs.length : Int) ≤ 17592186044416) (hn : n ≤ 1048576) (h0 : 0 ≤ n) : ∃ t : Int, laws_szInt64S.f xs n = some t ∧ (t = -1 ∨ (t = n - (xs.length : Int) ∧ 0 ≤ t)) := by
  unfold laws_szInt64S.f
  rw [w64 (by omega)]
  split
  · exact ⟨-1, rfl, .inl rfl⟩
  · exact ⟨_, rfl, .inr ⟨rfl, by omega⟩⟩

theorem impl_unless_eq (b : Bool) (x : Int) : impl_unless.f b x = some (if b = true then 0 else x) := by
  unfold impl_unless.f
  split <;> rfl

theorem bext {a b : ByteArray} (h : a.data.toList = b.data.toList) : a = b := by
  apply ByteArray.ext
  exact Array.toList_inj.1 h
theorem bapp (a b : ByteArray) : (a ++ b).data.toList = a.data.toList ++ b.data.toList := by simp [ByteArray.data_append]
theorem bsize (a : ByteArray) : a.size = a.data.toList.length := by
  show a.data.size = _
  exact Array.length_toList.symm
theorem bmk (l : List UInt8) : (⟨l.toArray⟩ : ByteArray).data.toList = l := rfl
/-- The digits of a number, as bytes. -/
def dgs (n : Int) : ByteArray := ⟨(Lib.itoa n).toArray⟩
theorem dgs_data (n : Int) : (dgs n).data.toList = Lib.itoa n := rfl
theorem dgs_size {n : Int} (h0 : 0 ≤ n) (h1 : n ≤ 1000000) : (dgs n).size ≤ 21 := by
  rw [bsize, dgs_data]
  exact Lib.itoa_length_le n (by omega) (by omega)
theorem digits_go : ∀ (k n : Nat), n < 10 ^ (k + 1) → k ≤ 15 → spec_l1Digits.f (k + 1) (n : Int) = some ⟨(Lib.decDigits n).toArray⟩ := by
  intro k
  induction k with
  | zero =>
    intro n hn _
    have h : n < 10 := by simpa using hn
    unfold spec_l1Digits.f
    rw [if_pos (by omega), w64 (by omega), Lib.decDigits_one h]
    congr 1
    apply bext
    rw [strOfNums_data, bmk]
    have e : ((48 + (n : Int)) % 256).toNat = 48 + n := by omega
    simp only [List.map_cons, List.map_nil, e]
  | succ k ih =>
    intro n hn hk
    unfold spec_l1Digits.f
    by_cases h : n < 10
    · rw [if_pos (by omega), w64 (by omega), Lib.decDigits_one h]
      congr 1
      apply bext
      rw [strOfNums_data, bmk]
      have e : ((48 + (n : Int)) % 256).toNat = 48 + n := by omega
      simp only [List.map_cons, List.map_nil, e]
    · have hb : n < 10000000000000000 * 10 := by
        have : 10 ^ (k + 1 + 1) ≤ 10 ^ 17 := Nat.pow_le_pow_right (by omega) (by omega)
        have e : (10 : Nat) ^ 17 = 10000000000000000 * 10 := by decide
        omega
      have e1 : wrap64 (Int.tdiv (n : Int) 10) = ((n / 10 : Nat) : Int) := by
        rw [Int.tdiv_eq_ediv_of_nonneg (by omega), w64 (by omega)]
        omega
      have e2 : Int.tmod (n : Int) 10 = ((n % 10 : Nat) : Int) := by
        rw [Int.tmod_eq_emod_of_nonneg (by omega)]
        omega
      have h10 : n / 10 < 10 ^ (k + 1) := by
        rw [Nat.pow_succ] at hn
        omega
      rw [if_neg (by omega), e1, ih (n / 10) h10 (by omega), e2]
      simp only [Option.bind_some]
      rw [w64 (by omega)]
      have e3 : ((48 + ((n % 10 : Nat) : Int)) % 256).toNat = 48 + n % 10 := by omega
      have hlen : (Lib.decDigits (n / 10)).length ≤ 21 := by
        have := Lib.itoa_length_le ((n / 10 : Nat) : Int) (by omega) (by omega)
        rwa [Lib.itoa_nonneg] at this
      rw [if_pos (by
        rw [strOfNums_size, bsize, bmk]
        simp only [List.length_cons, List.length_nil]
        omega)]
      congr 1
      apply bext
      rw [bapp, strOfNums_data, bmk, bmk]
      conv => rhs; rw [Lib.decDigits, dif_neg h]
      simp only [List.map_cons, List.map_nil, e3]
theorem digits_eq {k : Nat} (hk : 8 ≤ k) {n : Int} (h0 : 0 ≤ n) (h1 : n ≤ 1000000) : spec_l1Digits.f k n = some (dgs n) := by
  obtain ⟨m, rfl⟩ := Int.eq_ofNat_of_zero_le h0
  have h := digits_go 7 m (by have : (10 : Nat) ^ (7 + 1) = 100000000 := by decide
                              omega) (by omega)
  have := at_rounds (g := fun k => spec_l1Digits.f k (m : Int)) (spec_l1Digits.mono (m : Int)) hk h
  rw [show dgs (m : Int) = ⟨(Lib.decDigits m).toArray⟩ from bext (by rw [dgs_data, Lib.itoa_nonneg])]
  exact this
/-- Words behind a first one, a blank ahead of each. -/
def tailB (l : List Int) : List UInt8 := Lib.joinTail [32] (l.map Lib.itoa)
theorem tailB_cons (n : Int) (l : List Int) : tailB (n :: l) = 32 :: (Lib.itoa n ++ tailB l) := by
  simp [tailB, Lib.joinTail]
theorem tailB_len : ∀ (l : List Int), (∀ n ∈ l, 0 ≤ n ∧ n ≤ 1000000) → (tailB l).length ≤ 22 * l.length
  | [], _ => by simp [tailB, Lib.joinTail]
  | n :: l, h => by
    have h1 := tailB_len l (fun m hm => h m (by simp [hm]))
    have h2 := h n (by simp)
    have h3 := Lib.itoa_length_le n (by omega) (by omega)
    rw [tailB_cons]
    simp only [List.length_cons, List.length_append]
    omega

theorem impl_digits_eq {n : Int} (h0 : 0 ≤ n) (h1 : n ≤ 1000000) : impl_digits.f n = some (dgs n) := by
  unfold impl_digits.f
  have : strconv_FormatInt_102.f n 10 = some (dgs n) := by
    unfold strconv_FormatInt_102.f
    rw [if_pos rfl, if_pos (by omega), if_pos (by omega)]
    rfl
  rw [this]
  rfl
theorem laws_eqTextResult_self (a : Int) (b : ByteArray) : laws_eqTextResult.f a b a b = some true := by
  unfold laws_eqTextResult.f
  rw [if_pos rfl, if_pos rfl]
theorem join_words (w : ByteArray) (r : List Int) : Lib.join ((w :: r.map dgs).map (fun x => x.data.toList)) [32] = w.data.toList ++ tailB r := by
  rw [List.map_cons, Lib.join_cons]
  congr 1
  unfold tailB
  congr 1
  rw [List.map_map]
  exact List.map_congr_left (fun n _ => rfl)
theorem join_f {w : ByteArray} {r : List Int} (hw : w.size ≤ 1000) (hr : r.length ≤ 1000) (h : ∀ n ∈ r, 0 ≤ n ∧ n ≤ 1000000) : strings_Join.f (w :: r.map dgs) (⟨#[32]⟩ : ByteArray) = some ⟨(w.data.toList ++ tailB r).toArray⟩ := by
  unfold strings_Join.f
  have e : Lib.join ((w :: r.map dgs).map (fun x => x.data.toList)) (⟨#[32]⟩ : ByteArray).data.toList = w.data.toList ++ tailB r := join_words w r
  rw [e, if_pos (by simp; omega), if_pos]
  have h2 := tailB_len r h
  rw [bsize] at hw
  rw [List.length_append]
  omega

def badP (x : Int) : Bool := !decide (0 ≤ x ∧ x ≤ 999)
/-- What is wrong with parameters. -/
def parF (xs : List Int) : Int := if 1 ≤ xs.length ∧ xs.length ≤ 6 then (if xs.any badP = true then 3 else 0) else 2
theorem spec_l4Params_eq {k : Nat} {xs : List Int} (hb : xs.length ≤ 4611686018427387904) (hk : xs.length + 3 < k) : spec_l4Params.f k xs = some (parF xs) := by
  obtain ⟨k, rfl⟩ : ∃ m, k = m + 1 := ⟨k - 1, by omega⟩
  have h := any_loop spec_l4Params.l0 rd badP (3 : Int) 0 (fun xs i h => rd_nat h) (fun k xs i => by
    simp only [spec_l4Params.l0, spec_l1In_eq, Option.bind_some, badP]
    by_cases g : 0 ≤ rd xs i ∧ rd xs i ≤ 999 <;> simp [g]) hb xs.length k 0 (by omega) (Nat.zero_le _) (by omega)
  rw [List.drop_zero] at h
  have h' : spec_l4Params.l0 k xs 0 = some (if xs.any badP = true then 3 else 0) := h
  unfold spec_l4Params.f parF
  by_cases h1 : 1 ≤ xs.length
  · by_cases h2 : xs.length ≤ 6
    · have g1 : ¬ (xs.length : Int) < 1 := by omega
      have g2 : ¬ (xs.length : Int) > 6 := by omega
      simp only [spec_l4Params.j0, g1, g2, h1, h2, if_true, if_false, and_self, decide_false, h', Bool.false_eq_true]
    · have g1 : ¬ (xs.length : Int) < 1 := by omega
      have g2 : (xs.length : Int) > 6 := by omega
      simp only [spec_l4Params.j0, g1, g2, h1, h2, if_true, if_false, and_false, decide_true]
  · have g1 : (xs.length : Int) < 1 := by omega
    simp only [spec_l4Params.j0, g1, h1, if_true, if_false, false_and]
theorem impl_paramsCode_eq {k : Nat} {xs : List Int} (hb : xs.length ≤ 4611686018427387904) (hk : xs.length + 3 < k) : impl_paramsCode.f k xs = some (parF xs) := by
  obtain ⟨r, h, hr⟩ := index_loop slices_IndexFunc_int64_int64.l0 rd badP (fun xs i h => rd_nat h) (fun k xs n i => by
    simp only [slices_IndexFunc_int64_int64.l0, impl_paramsCode_1.f, impl_in_eq, Option.bind_some, badP]
    rfl) hb xs.length k 0 (by omega) (Nat.zero_le _) (by omega)
  rw [List.drop_zero] at hr
  unfold impl_paramsCode.f parF slices_ContainsFunc_int64_int64.f slices_IndexFunc_int64_int64.f
  have h' : slices_IndexFunc_int64_int64.l0 k xs (xs.length : Int) 0 = some r := h
  simp only [impl_in_eq, Option.bind_some, impl_unless_eq, h', hr]
  by_cases h1 : 1 ≤ xs.length ∧ xs.length ≤ 6
  · have g : 1 ≤ (xs.length : Int) ∧ (xs.length : Int) ≤ 6 := by omega
    rw [if_pos h1, if_pos (by simpa using g)]
    cases xs.any badP <;> rfl
  · have g : ¬ (1 ≤ (xs.length : Int) ∧ (xs.length : Int) ≤ 6) := by omega
    rw [if_neg h1, if_neg (by simpa using g)]

theorem spec_l4Shown_eq (x : Int) : spec_l4Shown.f x = some (isCh x && decide (x ≥ 32) && (x != 127)) := by
  unfold spec_l4Shown.f
  simp only [spec_l1Char_eq, Option.bind_some]
  cases isCh x <;> by_cases h : x ≥ 32 <;> simp [h]

def showsB (x : Int) : Bool := isCh x && decide (x ≥ 32) && (x != 127)
theorem impl_shows_eq (x : Int) : impl_shows.f x = some (isCh x && decide (x ≥ 32) && (x != 127)) := by
  unfold impl_shows.f
  simp only [impl_isChar_eq, Option.bind_some]
  cases isCh x <;> by_cases h : x ≥ 32 <;> simp [h]

/-- What is wrong with an action. -/
def formB (a b c : Int) (d : Bool) (n : Nat) : Bool := decide (0 ≤ a ∧ a ≤ 5) && (decide (a ≠ 0) || decide (b = 0)) && (decide (a = 5) || decide (c = 0)) && (decide (a = 4) || (!d && decide (n = 0)))
def charB (a b c : Int) : Bool := if a = 1 then showsB b else if a = 2 then (decide (0 ≤ b ∧ b ≤ 31) && decide (b ≠ 24) && decide (b ≠ 26) && decide (b ≠ 27)) else if a = 3 then (decide (48 ≤ b ∧ b ≤ 126) && decide (b ≠ 91)) else if a = 5 then (showsB b && decide (1 ≤ c ∧ c ≤ 2)) else if a = 4 then decide (64 ≤ b ∧ b ≤ 126) else true
def actF (a b c : Int) (d : Bool) (xs : List Int) : Int := if formB a b c d xs.length = true then (if charB a b c = true then (if a = 4 then parF xs else 0) else 3) else 1
theorem spec_l4Form_eq (a b c : Int) (d : Bool) (xs : List Int) : spec_l4Form.f a b c d xs = some (formB a b c d xs.length) := by
  unfold spec_l4Form.f formB
  simp only [spec_l1In_eq, Option.bind_some]
  have hl : ((xs.length : Int) == 0) = decide (xs.length = 0) := by
    cases xs <;> simp
    omega
  rw [hl]
  by_cases h : 0 ≤ a ∧ a ≤ 5
  · by_cases h0 : a = 0
    · subst h0
      by_cases hb : b = 0 <;> by_cases hc : c = 0 <;> cases d <;> simp [hb, hc]
    · by_cases h5 : a = 5
      · subst h5
        cases d <;> simp
      · by_cases h4 : a = 4
        · subst h4
          by_cases hc : c = 0 <;> simp [hc]
        · by_cases hc : c = 0 <;> cases d <;> simp [h, hc, h0, h4, h5]
  · simp [h]
theorem spec_l4Char_eq (a b c : Int) (d : Bool) (xs : List Int) : spec_l4Char.f a b c d xs = some (charB a b c) := by
  unfold spec_l4Char.f charB showsB
  simp only [spec_l1In_eq, spec_l4Shown_eq, Option.bind_some]
  by_cases h1 : a = 1
  · simp [h1]
  · by_cases h2 : a = 2
    · subst h2
      by_cases g1 : 0 ≤ b ∧ b ≤ 31 <;> by_cases g2 : b = 24 <;> by_cases g3 : b = 26 <;> simp [g1, g2, g3]
      all_goals first | rfl | (by_cases g4 : b = 27 <;> simp [g4])
    · by_cases h3 : a = 3
      · subst h3
        by_cases g1 : 48 ≤ b ∧ b ≤ 126 <;> by_cases g2 : b = 91 <;> simp [g1, g2]
      · by_cases h5 : a = 5
        · subst h5
          cases (isCh b && decide (b ≥ 32) && (b != 127)) <;> simp
        · by_cases h4 : a = 4
          · subst h4
            simp
          · simp [h1, h2, h3, h4, h5]
theorem spec_l4Action_eq {k : Nat} {a b c : Int} {d : Bool} {xs : List Int} (hb : xs.length ≤ 4611686018427387904) (hk : xs.length + 10 < k) : spec_l4Action.f k a b c d xs = some (actF a b c d xs) := by
  unfold spec_l4Action.f actF
  simp only [spec_l4Form_eq, spec_l4Char_eq, spec_l4Params_eq hb (show xs.length + 3 < k by omega), Option.bind_some]
  split <;> (try split) <;> (try split) <;> rfl
theorem impl_charOk_eq {k : Nat} (hk : 1 ≤ k) (a b : Int) (h : 0 ≤ a ∧ a ≤ 5) (h0 : a = 0 → b = 0) : impl_charOk.f k a b = some (charB a b 1) := by
  obtain ⟨k, rfl⟩ : ∃ m, k = m + 1 := ⟨k - 1, by omega⟩
  unfold impl_charOk.f charB showsB
  simp only [impl_charOk.j0, impl_in_eq, impl_shows_eq, Option.bind_some]
  by_cases h1 : a = 1
  · simp [h1]
  · by_cases h2 : a = 2
    · subst h2
      by_cases g1 : 0 ≤ b ∧ b ≤ 31 <;> by_cases g2 : b = 24 <;> by_cases g3 : b = 26 <;> simp [g1, g2, g3]
      all_goals first | rfl | (by_cases g4 : b = 27 <;> simp [g4])
    · by_cases h3 : a = 3
      · subst h3
        by_cases g1 : 48 ≤ b ∧ b ≤ 126 <;> by_cases g2 : b = 91 <;> simp [g1, g2]
      · by_cases h5 : a = 5
        · subst h5
          simp
        · by_cases h4 : a = 4
          · subst h4
            simp
          · have : a = 0 := by omega
            subst this
            simp [h0 rfl]
theorem charB_set (a b c : Int) (h : a ≠ 5) : charB a b c = charB a b 1 := by
  unfold charB
  simp [h]
theorem charB_five (b c : Int) : charB 5 b c = (charB 5 b 1 && decide (1 ≤ c ∧ c ≤ 2)) := by
  unfold charB
  simp
theorem impl_ActionFault_eq {k : Nat} {a b c : Int} {d : Bool} {xs : List Int} (hb : xs.length ≤ 4611686018427387904) (hk : xs.length + 10 < k) : impl_ActionFault.f k a b c d xs = some (actF a b c d xs) := by
  obtain ⟨k, rfl⟩ : ∃ m, k = m + 2 := ⟨k - 2, by omega⟩
  unfold impl_ActionFault.f actF formB
  have hl : ((xs.length : Int) = 0) ↔ xs.length = 0 := by omega
  have hp : ∀ m : Nat, xs.length + 3 < m → impl_paramsCode.f m xs = some (parF xs) := fun m h => impl_paramsCode_eq hb h
  simp only [impl_isSet.f, impl_in_eq, impl_unless_eq, Option.bind_some, impl_ActionFault.j0, impl_ActionFault.j1, hl, hp k (by omega)]
  by_cases h : 0 ≤ a ∧ a ≤ 5
  · by_cases h0 : a = 0
    · subst h0
      by_cases hb0 : b = 0
      · subst hb0
        rw [impl_charOk_eq (by omega) 0 0 (by omega) (fun _ => rfl), charB_set 0 0 c (by omega)]
        cases charB 0 0 1 <;> by_cases hc : c = 0 <;> cases d <;> by_cases hx : xs.length = 0 <;> simp [hc, hx]
      · by_cases hc : c = 0 <;> cases d <;> by_cases hx : xs.length = 0 <;> simp [hb0, hc, hx]
    · rw [impl_charOk_eq (by omega) a b h (fun e => absurd e h0)]
      by_cases h5 : a = 5
      · subst h5
        rw [charB_five b c]
        cases charB 5 b 1 <;> cases d <;> by_cases hx : xs.length = 0 <;> by_cases hc : 1 ≤ c ∧ c ≤ 2 <;> simp [hx, hc]
      · rw [charB_set a b c h5]
        by_cases h4 : a = 4
        · subst h4
          cases charB 4 b 1 <;> by_cases hc : c = 0 <;> simp [hc]
        · cases charB a b 1 <;> cases d <;> by_cases hx : xs.length = 0 <;> by_cases hc : c = 0 <;> simp [h, hx, hc, h0, h4, h5]
  · have h4 : a ≠ 4 := by omega
    simp [h]

theorem laws_szAction_ex {a b e : Int} {p : Bool} {xs : List Int} {n : Int} (h : (xs.length : Int) ≤ 17592186044416) (hn : n ≤ 1048576) (h0 : 0 ≤ n) : ∃ t : Int, laws_szAction.f a b e p xs n = some t ∧ (t = -1 ∨ (t = n - (xs.length : Int) ∧ 0 ≤ t)) := by
  obtain ⟨t, h1, h2⟩ := laws_szInt64S_ex (xs := xs) h hn h0
  unfold laws_szAction.f
  rw [h1]
  simp only [Option.bind_some]
  rcases h2 with rfl | ⟨h2, h3⟩
  · exact ⟨-1, by simp, .inl rfl⟩
  · exact ⟨t, by rw [if_neg (by omega)], .inr ⟨h2, h3⟩⟩

theorem laws_toAction_eq {k : Nat} {a b e : Int} {p : Bool} {xs : List Int} (hb : xs.length ≤ 17592186044416) (hk : xs.length < k) : laws_toAction.f k a b e p xs = some (a, b, e, p, xs) := by
  unfold laws_toAction.f
  rw [laws_toInt64S_eq hb hk]
  rfl

theorem laws_eqAction_eq {k : Nat} {a b e a' b' e' : Int} {p p' : Bool} {xs xs' : List Int} (hb : xs.length ≤ 4611686018427387904) (hk : xs.length < k) : laws_eqAction.f k a b e p xs a' b' e' p' xs' = some (decide (a = a' ∧ b = b' ∧ e = e' ∧ p = p' ∧ xs = xs')) := by
  unfold laws_eqAction.f
  rw [laws_eqInt64S_eq hb hk]
  simp only [Option.bind_some]
  by_cases h1 : a = a' <;> by_cases h2 : b = b' <;> by_cases h3 : e = e' <;> by_cases h4 : p = p' <;> by_cases h5 : xs = xs' <;> simp [h1, h2, h3, h4, h5]

def privW : ByteArray := ⟨#[112, 114, 105, 118, 97, 116, 101]⟩
def blankW : ByteArray := ⟨#[32]⟩
def tailW (r : List ByteArray) : List UInt8 := Lib.joinTail [32] (r.map (fun x => x.data.toList))
theorem tailW_cons (x : ByteArray) (r : List ByteArray) : tailW (x :: r) = 32 :: (x.data.toList ++ tailW r) := by
  simp [tailW, Lib.joinTail]
theorem tailW_app (r s : List ByteArray) : tailW (r ++ s) = tailW r ++ tailW s := by
  simp [tailW, Lib.joinTail]
theorem tailW_dgs (l : List Int) : tailW (l.map dgs) = tailB l := by
  unfold tailW tailB
  rw [List.map_map]
  congr 1
theorem tailW_len : ∀ (r : List ByteArray), (∀ x ∈ r, x.size ≤ 30) → (tailW r).length ≤ 31 * r.length
  | [], _ => by simp [tailW, Lib.joinTail]
  | x :: r, h => by
    have h1 := tailW_len r (fun y hy => h y (by simp [hy]))
    have h2 := h x (by simp)
    rw [bsize] at h2
    rw [tailW_cons]
    simp only [List.length_cons, List.length_append]
    omega
theorem join_w {w : ByteArray} {r : List ByteArray} (hw : w.size ≤ 30) (hr : r.length ≤ 1000) (h : ∀ x ∈ r, x.size ≤ 30) : strings_Join.f (w :: r) (⟨#[32]⟩ : ByteArray) = some ⟨(w.data.toList ++ tailW r).toArray⟩ := by
  unfold strings_Join.f
  have e : Lib.join ((w :: r).map (fun x => x.data.toList)) (⟨#[32]⟩ : ByteArray).data.toList = w.data.toList ++ tailW r := by
    rw [List.map_cons, Lib.join_cons]
    rfl
  rw [e, if_pos (by simp; omega), if_pos]
  have h2 := tailW_len r h
  rw [bsize] at hw
  rw [List.length_append]
  omega
theorem spec_loop {a b c : Int} {d : Bool} {xs : List Int} (hl : xs.length ≤ 6) (hx : ∀ n ∈ xs, 0 ≤ n ∧ n ≤ 999) : ∀ (e k i : Nat) (acc : ByteArray), xs.length - i = e → i ≤ xs.length → e + 10 < k → acc.size ≤ 1000 + 100 * i → spec_ActionText.l0 k acc (i : Int) a b c d xs = some (0, ⟨(acc.data.toList ++ tailB (xs.drop i)).toArray⟩) := by
  intro e
  induction e with
  | zero =>
    intro k i acc hd hi hk ha
    obtain ⟨k, rfl⟩ : ∃ m, k = m + 1 := ⟨k - 1, by omega⟩
    simp only [spec_ActionText.l0]
    rw [if_neg (by omega), List.drop_eq_nil_of_le (by omega)]
    congr 2
    apply bext
    simp [tailB, Lib.joinTail]
  | succ e ih =>
    intro k i acc hd hi hk ha
    obtain ⟨k, rfl⟩ : ∃ m, k = m + 1 := ⟨k - 1, by omega⟩
    have hi' : i < xs.length := by omega
    obtain ⟨b0, b1⟩ := hx _ (List.getElem_mem hi')
    have hs := dgs_size b0 (by omega)
    have e1 : (acc ++ (⟨#[32]⟩ : ByteArray)).size = acc.size + 1 := by
      rw [bsize, bapp, List.length_append, ← bsize]
      rfl
    have e2 : (acc ++ (⟨#[32]⟩ : ByteArray) ++ dgs xs[i]).size = acc.size + 1 + (dgs xs[i]).size := by
      rw [bsize, bapp, List.length_append, ← bsize, ← bsize, e1]
    simp only [spec_ActionText.l0]
    rw [if_pos (by omega), if_pos (by omega), if_pos (by omega), rd_nat hi', digits_eq (by omega) b0 (by omega)]
    simp only [Option.bind_some]
    rw [if_pos (by omega), w64n (by omega), ih k (i + 1) _ (by omega) (by omega) (by omega) (by omega), List.drop_eq_getElem_cons hi', tailB_cons]
    congr 2
    apply bext
    simp only [bmk, bapp, dgs_data]
    simp
theorem impl_loop {xs : List Int} (hl : xs.length ≤ 6) (hx : ∀ n ∈ xs, 0 ≤ n ∧ n ≤ 999) : ∀ (e k i : Nat) (ws : List ByteArray), xs.length - i = e → i ≤ xs.length → e < k → ws.length ≤ 10 + i → impl_ActionText.l0 k ws xs (xs.length : Int) (i : Int) = (strings_Join.f (ws ++ (xs.drop i).map dgs) (⟨#[32]⟩ : ByteArray)).bind fun t => some (0, t) := by
  intro e
  induction e with
  | zero =>
    intro k i ws hd hi hk hw
    obtain ⟨k, rfl⟩ : ∃ m, k = m + 1 := ⟨k - 1, by omega⟩
    simp only [impl_ActionText.l0]
    rw [if_neg (by omega), List.drop_eq_nil_of_le (by omega), List.map_nil, List.append_nil]
  | succ e ih =>
    intro k i ws hd hi hk hw
    obtain ⟨k, rfl⟩ : ∃ m, k = m + 1 := ⟨k - 1, by omega⟩
    have hi' : i < xs.length := by omega
    obtain ⟨b0, b1⟩ := hx _ (List.getElem_mem hi')
    simp only [impl_ActionText.l0]
    rw [if_pos (by omega), if_pos (by omega), if_pos (by omega), rd_nat hi', impl_digits_eq b0 (by omega)]
    simp only [Option.bind_some]
    rw [if_pos (by omega), w64n (by omega), ih k (i + 1) _ (by omega) (by omega) (by omega) (by simp; omega), List.drop_eq_getElem_cons hi', List.map_cons, List.append_assoc, List.singleton_append]
/-- From the words on: what the reference puts behind what it has, and what the program joins. -/
theorem tails_same {a b c : Int} {d : Bool} {xs : List Int} (hl : xs.length ≤ 6) (hx : ∀ n ∈ xs, 0 ≤ n ∧ n ≤ 999) (h5 : a = 5 → 0 ≤ c ∧ c ≤ 2) (w : ByteArray) (r : List ByteArray) (hw : w.size ≤ 30) (hr : r.length ≤ 3) (hrs : ∀ x ∈ r, x.size ≤ 30) (acc : ByteArray)
    (hacc : acc.data.toList = w.data.toList ++ tailW (r ++ if a = 5 then [dgs c] else [])) (k : Nat) (hk : 50 ≤ k) :
    ∃ q : Int × ByteArray, spec_ActionText.j0 k acc a b c d xs = some q ∧ impl_ActionText.j0 k (w :: r) a b c d xs = some q := by
  obtain ⟨k, rfl⟩ : ∃ m, k = m + 4 := ⟨k - 4, by omega⟩
  have hp : privW.size = 7 := rfl
  have hr2 : (r ++ if a = 5 then [dgs c] else []).length ≤ 4 := by
    rw [List.length_append]
    split <;> simp <;> omega
  have hrs2 : ∀ x ∈ (r ++ if a = 5 then [dgs c] else []), x.size ≤ 30 := by
    intro x hx'
    rw [List.mem_append] at hx'
    rcases hx' with h | h
    · exact hrs x h
    · split at h
      · rename_i h6
        simp at h
        subst h
        have := dgs_size (h5 h6).1 (by have := (h5 h6).2; omega)
        omega
      · cases h
  have hasz : acc.size ≤ 200 := by
    have h1 := tailW_len _ hrs2
    rw [bsize, hacc, List.length_append, ← bsize]
    omega
  -- the program's words
  have i0 : impl_ActionText.j0 (k + 4) (w :: r) a b c d xs = impl_ActionText.j1 (k + 3) (w :: (r ++ if a = 5 then [dgs c] else [])) a b c d xs := by
    simp only [impl_ActionText.j0]
    by_cases h6 : a = 5
    · rw [if_pos h6, if_pos h6, impl_digits_eq (h5 h6).1 (by have := (h5 h6).2; omega)]
      simp only [Option.bind_some]
      rw [if_pos (by simp; omega)]
      rfl
    · rw [if_neg h6, if_neg h6, List.append_nil]
  generalize hR : (r ++ if a = 5 then [dgs c] else []) = R at *
  have hxd : ∀ x ∈ xs.map dgs, x.size ≤ 30 := by
    intro x hx'
    obtain ⟨n, hn, rfl⟩ := List.mem_map.1 hx'
    have := hx n hn
    have := dgs_size this.1 (by omega)
    omega
  rw [i0]
  by_cases hd : d = true
  · subst hd
    refine ⟨(0, ⟨(acc.data.toList ++ 32 :: privW.data.toList ++ tailB xs).toArray⟩), ?_, ?_⟩
    · simp only [spec_ActionText.j0, spec_ActionText.j1, if_true]
      rw [if_pos (by omega)]
      have e := spec_loop (a := a) (b := b) (c := c) (d := true) hl hx xs.length (k + 2) 0 (acc ++ (⟨#[32, 112, 114, 105, 118, 97, 116, 101]⟩ : ByteArray)) (by omega) (Nat.zero_le _) (by omega) (by
        rw [bsize, bapp, List.length_append, ← bsize]
        have : (⟨#[32, 112, 114, 105, 118, 97, 116, 101]⟩ : ByteArray).data.toList.length = 8 := rfl
        omega)
      have e' : spec_ActionText.l0 (k + 2) (acc ++ (⟨#[32, 112, 114, 105, 118, 97, 116, 101]⟩ : ByteArray)) 0 a b c true xs = _ := e
      rw [e']
      congr 2
      all_goals first | done | (apply bext; simp only [bmk, bapp, List.drop_zero]; try rfl)
    · simp only [impl_ActionText.j1, impl_ActionText.j2, if_true]
      rw [if_pos (by simp; omega)]
      have e := impl_loop hl hx xs.length (k + 1) 0 (w :: R ++ [privW]) (by omega) (Nat.zero_le _) (by omega) (by simp; omega)
      have e' : impl_ActionText.l0 (k + 1) (w :: R ++ [(⟨#[112, 114, 105, 118, 97, 116, 101]⟩ : ByteArray)]) xs (xs.length : Int) 0 = _ := e
      rw [e', List.drop_zero, List.cons_append, List.cons_append, join_w hw (by simp; omega) (by
        intro x hx'
        rw [List.mem_append, List.mem_append, List.mem_singleton] at hx'
        rcases hx' with (h | rfl) | h
        · exact hrs2 x h
        · omega
        · exact hxd x h)]
      simp only [Option.bind_some]
      congr 2
      apply bext
      rw [bmk, bmk, hacc, tailW_app, tailW_app, tailW_dgs]
      simp [tailW, Lib.joinTail]
  · have hd' : d = false := Bool.eq_false_iff.2 hd
    subst hd'
    refine ⟨(0, ⟨(acc.data.toList ++ tailB xs).toArray⟩), ?_, ?_⟩
    · simp only [spec_ActionText.j0, spec_ActionText.j1, Bool.false_eq_true, if_false]
      have e := spec_loop (a := a) (b := b) (c := c) (d := false) hl hx xs.length (k + 2) 0 acc (by omega) (Nat.zero_le _) (by omega) (by omega)
      exact e
    · simp only [impl_ActionText.j1, impl_ActionText.j2, Bool.false_eq_true, if_false]
      have e := impl_loop hl hx xs.length (k + 1) 0 (w :: R) (by omega) (Nat.zero_le _) (by omega) (by simp; omega)
      have e' : impl_ActionText.l0 (k + 1) (w :: R) xs (xs.length : Int) 0 = _ := e
      rw [e', List.drop_zero, List.cons_append, join_w hw (by simp; omega) (by
        intro x hx'
        rw [List.mem_append] at hx'
        rcases hx' with h | h
        · exact hrs2 x h
        · exact hxd x h)]
      simp only [Option.bind_some]
      congr 2
      apply bext
      rw [bmk, bmk, hacc, tailW_app, tailW_dgs, List.append_assoc]
theorem act_facts {a b c : Int} {d : Bool} {xs : List Int} (h : actF a b c d xs = 0) : (0 ≤ a ∧ a ≤ 5) ∧ (a = 0 → d = false ∧ xs = []) ∧ (a ≠ 0 → 0 ≤ b ∧ b ≤ 65535) ∧ (a = 5 → 0 ≤ c ∧ c ≤ 2) ∧ xs.length ≤ 6 ∧ (∀ n ∈ xs, 0 ≤ n ∧ n ≤ 999) := by
  unfold actF at h
  split at h
  · rename_i h1
    split at h
    · rename_i h2
      have f1 : 0 ≤ a ∧ a ≤ 5 := by
        unfold formB at h1
        simp at h1
        omega
      have f2 : a ≠ 4 → d = false ∧ xs = [] := by
        intro h4
        unfold formB at h1
        simp [h4] at h1
        exact h1.2
      have f3 : a = 4 → xs.length ≤ 6 ∧ (∀ n ∈ xs, 0 ≤ n ∧ n ≤ 999) := by
        intro h4
        rw [if_pos h4] at h
        unfold parF at h
        split at h
        · rename_i h5
          split at h
          · omega
          · rename_i h6
            refine ⟨h5.2, fun n hn => ?_⟩
            have h7 : ¬ badP n = true := fun h8 => h6 (List.any_eq_true.2 ⟨n, hn, h8⟩)
            unfold badP at h7
            simp at h7
            omega
        · omega
      have f4 : a ≠ 0 → 0 ≤ b ∧ b ≤ 65535 := by
        intro h0
        have sh : ∀ x, showsB x = true → 0 ≤ x ∧ x ≤ 65535 := by
          intro x hx
          unfold showsB at hx
          simp at hx
          have := isCh_iff.1 hx.1.1
          omega
        unfold charB at h2
        by_cases q1 : a = 1
        · rw [if_pos q1] at h2
          exact sh b h2
        rw [if_neg q1] at h2
        by_cases q2 : a = 2
        · rw [if_pos q2] at h2
          simp at h2
          omega
        rw [if_neg q2] at h2
        by_cases q3 : a = 3
        · rw [if_pos q3] at h2
          simp at h2
          omega
        rw [if_neg q3] at h2
        by_cases q5 : a = 5
        · rw [if_pos q5] at h2
          rw [Bool.and_eq_true] at h2
          exact sh b h2.1
        rw [if_neg q5] at h2
        have q4 : a = 4 := by omega
        rw [if_pos q4] at h2
        simp at h2
        omega
      have f5 : a = 5 → 0 ≤ c ∧ c ≤ 2 := by
        intro q5
        subst q5
        unfold charB at h2
        simp at h2
        omega
      refine ⟨f1, fun h0 => f2 (by omega), f4, f5, ?_, ?_⟩
      · by_cases q : a = 4
        · exact (f3 q).1
        · rw [(f2 q).2]
          simp
      · by_cases q : a = 4
        · exact (f3 q).2
        · rw [(f2 q).2]
          simp
    · omega
  · omega
def kindsW : List ByteArray := [(⟨#[110, 111, 110, 101]⟩ : ByteArray), (⟨#[112, 114, 105, 110, 116]⟩ : ByteArray), (⟨#[99, 111, 110, 116, 114, 111, 108]⟩ : ByteArray), (⟨#[101, 115, 99, 97, 112, 101]⟩ : ByteArray), (⟨#[112, 97, 114, 97, 109, 115]⟩ : ByteArray), (⟨#[115, 101, 116]⟩ : ByteArray)]
theorem text_same {K : Nat} {a b c : Int} {d : Bool} {xs : List Int} (hb : xs.length ≤ 4611686018427387904) (hK : xs.length + 100 ≤ K) : ∃ q : Int × ByteArray, spec_ActionText.f K a b c d xs = some q ∧ impl_ActionText.f K a b c d xs = some q := by
  unfold spec_ActionText.f impl_ActionText.f
  rw [spec_l4Action_eq hb (by omega), impl_ActionFault_eq hb (by omega)]
  simp only [Option.bind_some]
  by_cases h : actF a b c d xs = 0
  · rw [if_pos h, if_pos h]
    obtain ⟨f1, f0, f4, f5, fl, fx⟩ := act_facts h
    have hkl : ((([(⟨#[110, 111, 110, 101]⟩ : ByteArray), (⟨#[112, 114, 105, 110, 116]⟩ : ByteArray), (⟨#[99, 111, 110, 116, 114, 111, 108]⟩ : ByteArray), (⟨#[101, 115, 99, 97, 112, 101]⟩ : ByteArray), (⟨#[112, 97, 114, 97, 109, 115]⟩ : ByteArray), (⟨#[115, 101, 116]⟩ : ByteArray)] : List ByteArray).length : Nat) : Int) = 6 := rfl
    rw [if_pos f1.1, if_pos f1.1, hkl, if_pos (show a < 6 by omega), if_pos (show a < 6 by omega)]
    have hws : (rdOf ByteArray.empty kindsW a).size ≤ 7 := by
      have : a = 0 ∨ a = 1 ∨ a = 2 ∨ a = 3 ∨ a = 4 ∨ a = 5 := by omega
      rcases this with rfl | rfl | rfl | rfl | rfl | rfl <;> decide
    have hww : ∀ w, w = rdOf ByteArray.empty kindsW a → rdOf ByteArray.empty ([(⟨#[110, 111, 110, 101]⟩ : ByteArray), (⟨#[112, 114, 105, 110, 116]⟩ : ByteArray), (⟨#[99, 111, 110, 116, 114, 111, 108]⟩ : ByteArray), (⟨#[101, 115, 99, 97, 112, 101]⟩ : ByteArray), (⟨#[112, 97, 114, 97, 109, 115]⟩ : ByteArray), (⟨#[115, 101, 116]⟩ : ByteArray)] : List ByteArray) a = w := fun w e => e.symm
    obtain ⟨w, hw⟩ : ∃ w, w = rdOf ByteArray.empty kindsW a := ⟨_, rfl⟩
    rw [hww w hw]
    rw [← hw] at hws
    by_cases h0 : a = 0
    · obtain ⟨rfl, rfl⟩ := f0 h0
      rw [if_pos h0, if_pos h0]
      refine ⟨(0, w), rfl, ?_⟩
      obtain ⟨K, rfl⟩ : ∃ m, K = m + 4 := ⟨K - 4, by omega⟩
      simp only [impl_ActionText.j0, impl_ActionText.j1, impl_ActionText.j2, impl_ActionText.l0, Bool.false_eq_true, if_false]
      rw [if_neg (by omega), if_neg (by simp), join_w (by omega) (by simp) (by simp)]
      simp only [Option.bind_some]
      congr 2
      apply bext
      simp [tailW, Lib.joinTail]
    · have b0 := f4 h0
      have hs := dgs_size b0.1 (by omega)
      have e1 : (w ++ (⟨#[32]⟩ : ByteArray)).size = w.size + 1 := by
        rw [bsize, bapp, List.length_append, ← bsize]
        rfl
      have e2 : (w ++ (⟨#[32]⟩ : ByteArray) ++ dgs b).size = w.size + 1 + (dgs b).size := by
        rw [bsize, bapp, List.length_append, ← bsize, ← bsize, e1]
      rw [if_neg h0, if_neg h0, if_pos (by omega), digits_eq (by omega) b0.1 (by omega), impl_digits_eq b0.1 (by omega)]
      simp only [Option.bind_some]
      rw [if_pos (by omega), if_pos (show ([w] : List ByteArray).length < 8796093022208 by simp)]
      by_cases h5 : a = 5
      · have c0 := f5 h5
        have hsc := dgs_size c0.1 (by omega)
        have e3 : (w ++ (⟨#[32]⟩ : ByteArray) ++ dgs b ++ (⟨#[32]⟩ : ByteArray)).size = w.size + 1 + (dgs b).size + 1 := by
          rw [bsize, bapp, List.length_append, ← bsize, e2]
          rfl
        rw [if_pos h5, if_pos (by omega), digits_eq (by omega) c0.1 (by omega)]
        simp only [Option.bind_some]
        rw [if_pos (by omega)]
        exact tails_same fl fx f5 w [dgs b] (by omega) (by simp) (by intro x hx; simp at hx; subst hx; omega) _ (by
          rw [if_pos h5]
          simp only [bapp]
          simp [tailW, Lib.joinTail]) K (by omega)
      · rw [if_neg h5]
        exact tails_same fl fx f5 w [dgs b] (by omega) (by simp) (by intro x hx; simp at hx; subst hx; omega) _ (by
          rw [if_neg h5]
          simp only [bapp]
          simp [tailW, Lib.joinTail]) K (by omega)
  · rw [if_neg h, if_neg h]
    exact ⟨_, rfl, rfl⟩
theorem FnExactActionText : ∀ (x0 : S62), (((Lit.int .i64 x0.f0).wf = true) ∧ ((Lit.int .i64 x0.f1).wf = true) ∧ ((Lit.int .i64 x0.f2).wf = true) ∧ (True) ∧ (x0.f4.length ≤ maxLen ∧ x0.f4.length * 8 ≤ 140737488351232 ∧ ∀ y ∈ x0.f4, (Lit.int .i64 y).wf = true)) → ∃ k, laws_FnExactActionText.f k x0.f0 x0.f1 x0.f2 x0.f3 x0.f4 = some true := by
  intro x hx
  obtain ⟨_, _, _, _, hm, hb, hw⟩ := hx
  refine ⟨x.f4.length + 200, ?_⟩
  unfold laws_FnExactActionText.f
  obtain ⟨t, ht, h⟩ := laws_szAction_ex (a := x.f0) (b := x.f1) (e := x.f2) (p := x.f3) (xs := x.f4) (n := 1048576) (by omega) (by omega) (by omega)
  rw [ht]
  simp only [Option.bind_some]
  rcases h with rfl | ⟨h, h0⟩
  · simp
  rw [if_neg (by omega), laws_toAction_eq (by omega) (by omega)]
  simp only [Option.bind_some]
  obtain ⟨q, q1, q2⟩ := text_same (K := x.f4.length + 200) (a := x.f0) (b := x.f1) (c := x.f2) (d := x.f3) (xs := x.f4) (by omega) (by omega)
  rw [q1, q2]
  simp only [Option.bind_some]
  rw [laws_eqTextResult_self]
  simp only [Option.bind_some, if_true]
  rw [laws_eqAction_eq (by omega) (by omega)]
  simp

end Go.Proofs.YtpoafgokngpglaaDoor.Pure
