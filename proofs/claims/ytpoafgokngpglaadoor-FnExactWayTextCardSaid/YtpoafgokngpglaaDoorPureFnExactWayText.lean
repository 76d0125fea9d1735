/- WayText: for every way the program's text is the reference's. No condition. -/
import Derived.Test.YtpoafgokngpglaaDoorPFnExactWayTextx
import Derived.Test.YtpoafgokngpglaaDoorPlain
import Derived.Lib.ItoaLen
import Derived.Lib.ItoaMem
import Derived.Lib.Join
namespace Go.Proofs.YtpoafgokngpglaaDoor.Pure
open Go Go.RowKit Go.Proofs.YtpoafgokngpglaaDoor.PFnExactWayText Go.Proofs.YtpoafgokngpglaaDoorW.PrintWords Go.Proofs.YtpoafgokngpglaaDoorW.PrintLast Go.Proofs.YtpoafgokngpglaaDoorPlain
set_option linter.unusedVariables false
set_option linter.unusedSimpArgs false

instance : DecidableEq S37 := fun a b => match a, b with
  | ⟨a0, a1, a2, a3, a4, a5, a6⟩, ⟨b0, b1, b2, b3, b4, b5, b6⟩ => decidable_of_iff (a0 = b0 ∧ a1 = b1 ∧ a2 = b2 ∧ a3 = b3 ∧ a4 = b4 ∧ a5 = b5 ∧ a6 = b6) (by simp)

theorem spec_l1In_eq (x a b : Int) : spec_l1In.f x a b = some (decide (a ≤ x ∧ x ≤ b)) := by
  unfold spec_l1In.f
  split <;> (congr 1; simp_all) <;> omega

theorem impl_in_eq (x a b : Int) : impl_in.f x a b = some (decide (a ≤ x ∧ x ≤ b)) := by
  unfold impl_in.f
  split <;> (congr 1; simp_all) <;> omega

theorem way_loop (xs : List Int) (hb : xs.length ≤ 1000) (d : Nat) : ∀ (k i : Nat), xs.length - i = d → i ≤ xs.length → d < k →
    ∃ r : Int, spec_l10Fault.l0 k xs (i : Int) = some r ∧ impl_WayFault.l0 k xs (xs.length : Int) (i : Int) = some r := by
  induction d with
  | zero =>
    intro k i hd hi hk
    obtain ⟨k, rfl⟩ : ∃ m, k = m + 1 := ⟨k - 1, by omega⟩
    refine ⟨0, ?_, ?_⟩
    · simp only [spec_l10Fault.l0]; rw [if_neg (by omega)]
    · simp only [impl_WayFault.l0]; rw [if_neg (by omega)]
  | succ d ih =>
    intro k i hd hi hk
    obtain ⟨k, rfl⟩ : ∃ m, k = m + 1 := ⟨k - 1, by omega⟩
    obtain ⟨r, h1, h2⟩ := ih k (i + 1) (by omega) (by omega) (by omega)
    have hx : i < xs.length := by omega
    have g1 : (i : Int) < (xs.length : Int) := by omega
    have g2 : 0 ≤ (i : Int) := by omega
    simp only [spec_l10Fault.l0, impl_WayFault.l0, spec_l1In_eq, impl_in_eq, Option.bind_some, if_pos g1, if_pos g2]
    rw [rd_nat hx, w64n (by omega), h1, h2]
    by_cases h0 : (i : Int) = 0
    · rw [if_pos h0, if_pos h0]
      by_cases h3 : 0 ≤ xs[i] ∧ xs[i] ≤ 255
      · have h4 : 0 ≤ xs[i] ∧ xs[i] ≤ 511 := by omega
        exact ⟨r, by simp [h4], by simp [h3]⟩
      · by_cases h4 : 0 ≤ xs[i] ∧ xs[i] ≤ 511
        · exact ⟨r, by simp [h4], by simp [h3, h4]⟩
        · exact ⟨3, by simp [h4], by simp [h3, h4]⟩
    · rw [if_neg h0, if_neg h0]
      by_cases h3 : 0 ≤ xs[i] ∧ xs[i] ≤ 255
      · exact ⟨r, by simp [h3], by simp [h3]⟩
      · exact ⟨3, by simp [h3], by simp [h3]⟩
theorem way_fault (a b c d e f g : Int) : ∃ r : Int, ∀ k, 10 ≤ k → spec_l10Fault.f k a b c d e f g = some r ∧ impl_WayFault.f k a b c d e f g = some r := by
  obtain ⟨r, h1, h2⟩ := way_loop [a, b, c, d, e, f, g] (by simp) 7 10 0 rfl (Nat.zero_le _) (by omega)
  refine ⟨r, fun k hk => ⟨?_, ?_⟩⟩
  · exact at_rounds (g := fun k => spec_l10Fault.f k a b c d e f g) (spec_l10Fault.mono a b c d e f g) hk h1
  · exact at_rounds (g := fun k => impl_WayFault.f k a b c d e f g) (impl_WayFault.mono a b c d e f g) hk h2

theorem bext {a b : ByteArray} (h : a.data.toList = b.data.toList) : a = b := by
  apply ByteArray.ext
  exact Array.toList_inj.1 h
theorem bapp (a b : ByteArray) : (a ++ b).data.toList = a.data.toList ++ b.data.toList := by simp [ByteArray.data_append]
theorem bsize (a : ByteArray) : a.size = a.data.toList.length := by
  show a.data.size = _
  exact Array.length_toList.symm
theorem bmk (l : List UInt8) : (⟨l.toArray⟩ : ByteArray).data.toList = l := rfl
/-- The digits of a number, as bytes. -/
def dgs (n : Int) : ByteArray := ⟨(Lib.itoa n).toArray⟩
theorem dgs_data (n : Int) : (dgs n).data.toList = Lib.itoa n := rfl
theorem dgs_size {n : Int} (h0 : 0 ≤ n) (h1 : n ≤ 1000000) : (dgs n).size ≤ 21 := by
  rw [bsize, dgs_data]
  exact Lib.itoa_length_le n (by omega) (by omega)
theorem digits_go : ∀ (k n : Nat), n < 10 ^ (k + 1) → k ≤ 15 → spec_l1Digits.f (k + 1) (n : Int) = some ⟨(Lib.decDigits n).toArray⟩ := by
  intro k
  induction k with
  | zero =>
    intro n hn _
    have h : n < 10 := by simpa using hn
    unfold spec_l1Digits.f
    rw [if_pos (by omega), w64 (by omega), Lib.decDigits_one h]
    congr 1
    apply bext
    rw [strOfNums_data, bmk]
    have e : ((48 + (n : Int)) % 256).toNat = 48 + n := by omega
    simp only [List.map_cons, List.map_nil, e]
  | succ k ih =>
    intro n hn hk
    unfold spec_l1Digits.f
    by_cases h : n < 10
    · rw [if_pos (by omega), w64 (by omega), Lib.decDigits_one h]
      congr 1
      apply bext
      rw [strOfNums_data, bmk]
      have e : ((48 + (n : Int)) % 256).toNat = 48 + n := by omega
      simp only [List.map_cons, List.map_nil, e]
    · have hb : n < 10000000000000000 * 10 := by
        have : 10 ^ (k + 1 + 1) ≤ 10 ^ 17 := Nat.pow_le_pow_right (by omega) (by omega)
        have e : (10 : Nat) ^ 17 = 10000000000000000 * 10 := by decide
        omega
      have e1 : wrap64 (Int.tdiv (n : Int) 10) = ((n / 10 : Nat) : Int) := by
        rw [Int.tdiv_eq_ediv_of_nonneg (by omega), w64 (by omega)]
        omega
      have e2 : Int.tmod (n : Int) 10 = ((n % 10 : Nat) : Int) := by
        rw [Int.tmod_eq_emod_of_nonneg (by omega)]
        omega
      have h10 : n / 10 < 10 ^ (k + 1) := by
        rw [Nat.pow_succ] at hn
        omega
      rw [if_neg (by omega), e1, ih (n / 10) h10 (by omega), e2]
      simp only [Option.bind_some]
      rw [w64 (by omega)]
      have e3 : ((48 + ((n % 10 : Nat) : Int)) % 256).toNat = 48 + n % 10 := by omega
      have hlen : (Lib.decDigits (n / 10)).length ≤ 21 := by
        have := Lib.itoa_length_le ((n / 10 : Nat) : Int) (by omega) (by omega)
        rwa [Lib.itoa_nonneg] at this
      rw [if_pos (by
        rw [strOfNums_size, bsize, bmk]
        simp only [List.length_cons, List.length_nil]
        omega)]
      congr 1
      apply bext
      rw [bapp, strOfNums_data, bmk, bmk]
      conv => rhs; rw [Lib.decDigits, dif_neg h]
      simp only [List.map_cons, List.map_nil, e3]
theorem digits_eq {k : Nat} (hk : 8 ≤ k) {n : Int} (h0 : 0 ≤ n) (h1 : n ≤ 1000000) : spec_l1Digits.f k n = some (dgs n) := by
  obtain ⟨m, rfl⟩ := Int.eq_ofNat_of_zero_le h0
  have h := digits_go 7 m (by have : (10 : Nat) ^ (7 + 1) = 100000000 := by decide
                              omega) (by omega)
  have := at_rounds (g := fun k => spec_l1Digits.f k (m : Int)) (spec_l1Digits.mono (m : Int)) hk h
  rw [show dgs (m : Int) = ⟨(Lib.decDigits m).toArray⟩ from bext (by rw [dgs_data, Lib.itoa_nonneg])]
  exact this
/-- Words behind a first one, a blank ahead of each. -/
def tailB (l : List Int) : List UInt8 := Lib.joinTail [32] (l.map Lib.itoa)
theorem tailB_cons (n : Int) (l : List Int) : tailB (n :: l) = 32 :: (Lib.itoa n ++ tailB l) := by
  simp [tailB, Lib.joinTail]
theorem tailB_len : ∀ (l : List Int), (∀ n ∈ l, 0 ≤ n ∧ n ≤ 1000000) → (tailB l).length ≤ 22 * l.length
  | [], _ => by simp [tailB, Lib.joinTail]
  | n :: l, h => by
    have h1 := tailB_len l (fun m hm => h m (by simp [hm]))
    have h2 := h n (by simp)
    have h3 := Lib.itoa_length_le n (by omega) (by omega)
    rw [tailB_cons]
    simp only [List.length_cons, List.length_append]
    omega

theorem impl_digits_eq {n : Int} (h0 : 0 ≤ n) (h1 : n ≤ 1000000) : impl_digits.f n = some (dgs n) := by
  unfold impl_digits.f
  have : strconv_FormatInt_102.f n 10 = some (dgs n) := by
    unfold strconv_FormatInt_102.f
    rw [if_pos rfl, if_pos (by omega), if_pos (by omega)]
    rfl
  rw [this]
  rfl
theorem laws_eqTextResult_self (a : Int) (b : ByteArray) : laws_eqTextResult.f a b a b = some true := by
  unfold laws_eqTextResult.f
  rw [if_pos rfl, if_pos rfl]
theorem join_words (w : ByteArray) (r : List Int) : Lib.join ((w :: r.map dgs).map (fun x => x.data.toList)) [32] = w.data.toList ++ tailB r := by
  rw [List.map_cons, Lib.join_cons]
  congr 1
  unfold tailB
  congr 1
  rw [List.map_map]
  exact List.map_congr_left (fun n _ => rfl)
theorem join_f {w : ByteArray} {r : List Int} (hw : w.size ≤ 1000) (hr : r.length ≤ 1000) (h : ∀ n ∈ r, 0 ≤ n ∧ n ≤ 1000000) : strings_Join.f (w :: r.map dgs) (⟨#[32]⟩ : ByteArray) = some ⟨(w.data.toList ++ tailB r).toArray⟩ := by
  unfold strings_Join.f
  have e : Lib.join ((w :: r.map dgs).map (fun x => x.data.toList)) (⟨#[32]⟩ : ByteArray).data.toList = w.data.toList ++ tailB r := join_words w r
  rw [e, if_pos (by simp; omega), if_pos]
  have h2 := tailB_len r h
  rw [bsize] at hw
  rw [List.length_append]
  omega

theorem way_ok {xs : List Int} (hl : xs.length = 7) : ∀ (d k i : Nat), xs.length - i = d → i ≤ xs.length → d < k → spec_l10Fault.l0 k xs (i : Int) = some 0 → ∀ j (hj : j < xs.length), i ≤ j → 0 ≤ xs[j] ∧ xs[j] ≤ 511 := by
  intro d
  induction d with
  | zero =>
    intro k i hd hi hk h j hj hij
    omega
  | succ d ih =>
    intro k i hd hi hk h j hj hij
    obtain ⟨k, rfl⟩ : ∃ m, k = m + 1 := ⟨k - 1, by omega⟩
    have hx : i < xs.length := by omega
    have g1 : (i : Int) < (xs.length : Int) := by omega
    have g2 : 0 ≤ (i : Int) := by omega
    simp only [spec_l10Fault.l0, spec_l1In_eq, Option.bind_some, if_pos g1, if_pos g2, decide_eq_true_eq] at h
    rw [rd_nat hx, w64n (by omega)] at h
    have key : (0 ≤ xs[i] ∧ xs[i] ≤ 511) ∧ spec_l10Fault.l0 k xs ((i + 1 : Nat) : Int) = some 0 := by
      by_cases h0 : (i : Int) = 0
      · rw [if_pos h0] at h
        split at h
        · rename_i q
          exact ⟨q, h⟩
        · simp at h
      · rw [if_neg h0] at h
        split at h
        · rename_i q
          exact ⟨by omega, h⟩
        · simp at h
    by_cases e : j = i
    · subst e
      exact key.1
    · exact ih k (i + 1) (by omega) (by omega) (by omega) key.2 j hj (by omega)
theorem spec_text_loop {xs : List Int} (hl : xs.length ≤ 10) (hx : ∀ n ∈ xs, 0 ≤ n ∧ n ≤ 511) : ∀ (d k i : Nat) (acc : ByteArray), xs.length - i = d → i ≤ xs.length → d + 10 < k → acc.size ≤ 100 * i → 1 ≤ i → spec_l10Text.l0 k xs acc (i : Int) = some ⟨(acc.data.toList ++ tailB (xs.drop i)).toArray⟩ := by
  intro d
  induction d with
  | zero =>
    intro k i acc hd hi hk ha h1
    obtain ⟨k, rfl⟩ : ∃ m, k = m + 1 := ⟨k - 1, by omega⟩
    simp only [spec_l10Text.l0]
    rw [if_neg (by omega), List.drop_eq_nil_of_le (by omega)]
    congr 1
    apply bext
    simp [tailB, Lib.joinTail]
  | succ d ih =>
    intro k i acc hd hi hk ha h1
    obtain ⟨k, rfl⟩ : ∃ m, k = m + 1 := ⟨k - 1, by omega⟩
    have hi' : i < xs.length := by omega
    obtain ⟨b0, b1⟩ := hx _ (List.getElem_mem hi')
    have hs := dgs_size b0 (by omega)
    have e1 : (acc ++ (⟨#[32]⟩ : ByteArray)).size = acc.size + 1 := by
      rw [bsize, bapp, List.length_append, ← bsize]
      rfl
    have e2 : (acc ++ (⟨#[32]⟩ : ByteArray) ++ dgs xs[i]).size = acc.size + 1 + (dgs xs[i]).size := by
      rw [bsize, bapp, List.length_append, ← bsize, ← bsize, e1]
    simp only [spec_l10Text.l0]
    rw [if_pos (by omega), if_pos (by omega), if_pos (by omega), rd_nat hi', digits_eq (by omega) b0 (by omega)]
    simp only [Option.bind_some]
    rw [if_pos (by omega), w64n (by omega), ih k (i + 1) _ (by omega) (by omega) (by omega) (by omega) (by omega), List.drop_eq_getElem_cons hi', tailB_cons]
    congr 1
    apply bext
    simp only [bmk, bapp, dgs_data]
    simp
theorem impl_text_loop {xs : List Int} (hl : xs.length ≤ 10) (hx : ∀ n ∈ xs, 0 ≤ n ∧ n ≤ 511) : ∀ (d k i : Nat), xs.length - i = d → i ≤ xs.length → d < k → impl_Way_text.l0 k ((xs.take i).map dgs) xs (xs.length : Int) (i : Int) = (strings_Join.f (xs.map dgs) (⟨#[32]⟩ : ByteArray)).bind fun t => some t := by
  intro d
  induction d with
  | zero =>
    intro k i hd hi hk
    obtain ⟨k, rfl⟩ : ∃ m, k = m + 1 := ⟨k - 1, by omega⟩
    simp only [impl_Way_text.l0]
    rw [if_neg (by omega), List.take_of_length_le (by omega)]
  | succ d ih =>
    intro k i hd hi hk
    obtain ⟨k, rfl⟩ : ∃ m, k = m + 1 := ⟨k - 1, by omega⟩
    have hi' : i < xs.length := by omega
    obtain ⟨b0, b1⟩ := hx _ (List.getElem_mem hi')
    simp only [impl_Way_text.l0]
    rw [if_pos (by omega), if_pos (by omega), if_pos (by omega), rd_nat hi', impl_digits_eq b0 (by omega)]
    simp only [Option.bind_some]
    rw [if_pos (by simp; omega), w64n (by omega), ← ih k (i + 1) (by omega) (by omega) (by omega), List.take_succ_eq_append_getElem hi', List.map_append]
    rfl
theorem FnExactWayText : ∀ (x0 : S37), (((Lit.int .i64 x0.f0).wf = true) ∧ ((Lit.int .i64 x0.f1).wf = true) ∧ ((Lit.int .i64 x0.f2).wf = true) ∧ ((Lit.int .i64 x0.f3).wf = true) ∧ ((Lit.int .i64 x0.f4).wf = true) ∧ ((Lit.int .i64 x0.f5).wf = true) ∧ ((Lit.int .i64 x0.f6).wf = true)) → ∃ k, laws_FnExactWayText.f k x0.f0 x0.f1 x0.f2 x0.f3 x0.f4 x0.f5 x0.f6 = some true := by
  intro x hx
  obtain ⟨r, hr⟩ := way_fault x.f0 x.f1 x.f2 x.f3 x.f4 x.f5 x.f6
  obtain ⟨h1, h2⟩ := hr 40 (by omega)
  refine ⟨40, ?_⟩
  unfold laws_FnExactWayText.f laws_toWay.f
  simp only [Option.bind_some]
  have key : ∃ q : Int × ByteArray, spec_WayText.f 40 x.f0 x.f1 x.f2 x.f3 x.f4 x.f5 x.f6 = some q ∧ impl_WayText.f 40 x.f0 x.f1 x.f2 x.f3 x.f4 x.f5 x.f6 = some q := by
    unfold spec_WayText.f impl_WayText.f
    rw [h1, h2]
    simp only [Option.bind_some]
    by_cases h0 : r = 0
    · rw [if_pos h0, if_pos h0]
      subst h0
      have hb := way_ok (xs := [x.f0, x.f1, x.f2, x.f3, x.f4, x.f5, x.f6]) rfl 7 40 0 rfl (by omega) (by omega) h1
      have hall : ∀ n ∈ [x.f0, x.f1, x.f2, x.f3, x.f4, x.f5, x.f6], 0 ≤ n ∧ n ≤ 511 := fun n hn => by
        obtain ⟨j, hj, rfl⟩ := List.mem_iff_getElem.1 hn
        exact hb j hj (Nat.zero_le _)
      have b0 := hall x.f0 (by simp)
      have e1 := spec_text_loop (xs := [x.f0, x.f1, x.f2, x.f3, x.f4, x.f5, x.f6]) (by simp) hall 6 40 1 (dgs x.f0) rfl (by simp) (by omega) (by have := dgs_size b0.1 (by omega); omega) (by omega)
      have e2 := impl_text_loop (xs := [x.f0, x.f1, x.f2, x.f3, x.f4, x.f5, x.f6]) (by simp) hall 7 40 0 rfl (by simp) (by omega)
      have e3 := join_f (w := dgs x.f0) (r := [x.f1, x.f2, x.f3, x.f4, x.f5, x.f6]) (by have := dgs_size b0.1 (by omega); omega) (by simp) (fun n hn => by have := hall n (by simp at hn ⊢; omega); omega)
      refine ⟨(0, ⟨((dgs x.f0).data.toList ++ tailB [x.f1, x.f2, x.f3, x.f4, x.f5, x.f6]).toArray⟩), ?_, ?_⟩
      rotate_left
      · unfold impl_Way_text.f impl_Way_numbers.f
        simp only [Option.bind_some]
        have e2' : impl_Way_text.l0 40 [] [x.f0, x.f1, x.f2, x.f3, x.f4, x.f5, x.f6] (([x.f0, x.f1, x.f2, x.f3, x.f4, x.f5, x.f6] : List Int).length : Int) 0 = some ⟨((dgs x.f0).data.toList ++ tailB [x.f1, x.f2, x.f3, x.f4, x.f5, x.f6]).toArray⟩ := by
          have := e2
          simp only [List.map_cons, List.map_nil] at this e3
          rw [e3] at this
          exact this
        rw [e2']
        rfl
      · unfold spec_l10Text.f spec_l10List.f
        simp only [Option.bind_some]
        rw [if_pos (by simp), show rd [x.f0, x.f1, x.f2, x.f3, x.f4, x.f5, x.f6] 0 = x.f0 from rfl, digits_eq (by omega) b0.1 (by omega)]
        simp only [Option.bind_some]
        have e1' : spec_l10Text.l0 40 [x.f0, x.f1, x.f2, x.f3, x.f4, x.f5, x.f6] (dgs x.f0) 1 = some ⟨((dgs x.f0).data.toList ++ tailB [x.f1, x.f2, x.f3, x.f4, x.f5, x.f6]).toArray⟩ := e1
        rw [e1']
        rfl
    · rw [if_neg h0, if_neg h0]
      exact ⟨_, rfl, rfl⟩
  obtain ⟨q, k1, k2⟩ := key
  rw [k1, k2]
  simp only [Option.bind_some]
  rw [laws_eqTextResult_self]
  rfl

end Go.Proofs.YtpoafgokngpglaaDoor.Pure
