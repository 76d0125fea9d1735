/- FnWays: a way is read back from its text; flags, shown bytes and usual ways are the reference's. No condition. -/
import Derived.Test.YtpoafgokngpglaaDoorPFnWaysx16
import Derived.Test.YtpoafgokngpglaaDoorQfPlain
import Derived.Lib.ItoaLen
import Derived.Lib.ItoaMem
import Derived.Lib.Join
import Derived.Lib.CutLaws
import Derived.Lib.IndexBytes
import Derived.Lib.ParseIntBCases
namespace Go.Proofs.YtpoafgokngpglaaDoor.Pure
open Go Go.RowKit Go.Proofs.YtpoafgokngpglaaDoor.PFnWays Go.Proofs.YtpoafgokngpglaaDoorW.PrintWords Go.Proofs.YtpoafgokngpglaaDoorW.PrintLast Go.Proofs.YtpoafgokngpglaaDoorPlain Go.Proofs.YtpoafgokngpglaaDoorPw
set_option linter.unusedVariables false
set_option linter.unusedSimpArgs false

theorem spec_l1In_eq (x a b : Int) : spec_l1In.f x a b = some (decide (a ≤ x ∧ x ≤ b)) := by
  unfold spec_l1In.f
  split <;> (congr 1; simp_all) <;> omega

theorem impl_in_eq (x a b : Int) : impl_in.f x a b = some (decide (a ≤ x ∧ x ≤ b)) := by
  unfold impl_in.f
  split <;> (congr 1; simp_all) <;> omega

theorem way_loop (xs : List Int) (hb : xs.length ≤ 1000) (d : Nat) : ∀ (k i : Nat), xs.length - i = d → i ≤ xs.length → d < k →
    ∃ r : Int, spec_l10Fault.l0 k xs (i : Int) = some r ∧ impl_WayFault.l0 k xs (xs.length : Int) (i : Int) = some r := by
  induction d with
  | zero =>
    intro k i hd hi hk
    obtain ⟨k, rfl⟩ : ∃ m, k = m + 1 := ⟨k - 1, by omega⟩
    refine ⟨0, ?_, ?_⟩
    · simp only [spec_l10Fault.l0]; rw [if_neg (by omega)]
    · simp only [impl_WayFault.l0]; rw [if_neg (by omega)]
  | succ d ih =>
    intro k i hd hi hk
    obtain ⟨k, rfl⟩ : ∃ m, k = m + 1 := ⟨k - 1, by omega⟩
    obtain ⟨r, h1, h2⟩ := ih k (i + 1) (by omega) (by omega) (by omega)
    have hx : i < xs.length := by omega
    have g1 : (i : Int) < (xs.length : Int) := by omega
    have g2 : 0 ≤ (i : Int) := by omega
    simp only [spec_l10Fault.l0, impl_WayFault.l0, spec_l1In_eq, impl_in_eq, Option.bind_some, if_pos g1, if_pos g2]
    rw [rd_nat hx, w64n (by omega), h1, h2]
    by_cases h0 : (i : Int) = 0
    · rw [if_pos h0, if_pos h0]
      by_cases h3 : 0 ≤ xs[i] ∧ xs[i] ≤ 255
      · have h4 : 0 ≤ xs[i] ∧ xs[i] ≤ 511 := by omega
        exact ⟨r, by simp [h4], by simp [h3]⟩
      · by_cases h4 : 0 ≤ xs[i] ∧ xs[i] ≤ 511
        · exact ⟨r, by simp [h4], by simp [h3, h4]⟩
        · exact ⟨3, by simp [h4], by simp [h3, h4]⟩
    · rw [if_neg h0, if_neg h0]
      by_cases h3 : 0 ≤ xs[i] ∧ xs[i] ≤ 255
      · exact ⟨r, by simp [h3], by simp [h3]⟩
      · exact ⟨3, by simp [h3], by simp [h3]⟩
theorem way_fault (a b c d e f g : Int) : ∃ r : Int, ∀ k, 10 ≤ k → spec_l10Fault.f k a b c d e f g = some r ∧ impl_WayFault.f k a b c d e f g = some r := by
  obtain ⟨r, h1, h2⟩ := way_loop [a, b, c, d, e, f, g] (by simp) 7 10 0 rfl (Nat.zero_le _) (by omega)
  refine ⟨r, fun k hk => ⟨?_, ?_⟩⟩
  · exact at_rounds (g := fun k => spec_l10Fault.f k a b c d e f g) (spec_l10Fault.mono a b c d e f g) hk h1
  · exact at_rounds (g := fun k => impl_WayFault.f k a b c d e f g) (impl_WayFault.mono a b c d e f g) hk h2

theorem bext {a b : ByteArray} (h : a.data.toList = b.data.toList) : a = b := by
  apply ByteArray.ext
  exact Array.toList_inj.1 h
theorem bapp (a b : ByteArray) : (a ++ b).data.toList = a.data.toList ++ b.data.toList := by simp [ByteArray.data_append]
theorem bsize (a : ByteArray) : a.size = a.data.toList.length := by
  show a.data.size = _
  exact Array.length_toList.symm
theorem bmk (l : List UInt8) : (⟨l.toArray⟩ : ByteArray).data.toList = l := rfl
/-- The digits of a number, as bytes. -/
def dgs (n : Int) : ByteArray := ⟨(Lib.itoa n).toArray⟩
theorem dgs_data (n : Int) : (dgs n).data.toList = Lib.itoa n := rfl
theorem dgs_size {n : Int} (h0 : 0 ≤ n) (h1 : n ≤ 1000000) : (dgs n).size ≤ 21 := by
  rw [bsize, dgs_data]
  exact Lib.itoa_length_le n (by omega) (by omega)
theorem digits_go : ∀ (k n : Nat), n < 10 ^ (k + 1) → k ≤ 15 → spec_l1Digits.f (k + 1) (n : Int) = some ⟨(Lib.decDigits n).toArray⟩ := by
  intro k
  induction k with
  | zero =>
    intro n hn _
    have h : n < 10 := by simpa using hn
    unfold spec_l1Digits.f
    rw [if_pos (by omega), w64 (by omega), Lib.decDigits_one h]
    congr 1
    apply bext
    rw [strOfNums_data, bmk]
    have e : ((48 + (n : Int)) % 256).toNat = 48 + n := by omega
    simp only [List.map_cons, List.map_nil, e]
  | succ k ih =>
    intro n hn hk
    unfold spec_l1Digits.f
    by_cases h : n < 10
    · rw [if_pos (by omega), w64 (by omega), Lib.decDigits_one h]
      congr 1
      apply bext
      rw [strOfNums_data, bmk]
      have e : ((48 + (n : Int)) % 256).toNat = 48 + n := by omega
      simp only [List.map_cons, List.map_nil, e]
    · have hb : n < 10000000000000000 * 10 := by
        have : 10 ^ (k + 1 + 1) ≤ 10 ^ 17 := Nat.pow_le_pow_right (by omega) (by omega)
        have e : (10 : Nat) ^ 17 = 10000000000000000 * 10 := by decide
        omega
      have e1 : wrap64 (Int.tdiv (n : Int) 10) = ((n / 10 : Nat) : Int) := by
        rw [Int.tdiv_eq_ediv_of_nonneg (by omega), w64 (by omega)]
        omega
      have e2 : Int.tmod (n : Int) 10 = ((n % 10 : Nat) : Int) := by
        rw [Int.tmod_eq_emod_of_nonneg (by omega)]
        omega
      have h10 : n / 10 < 10 ^ (k + 1) := by
        rw [Nat.pow_succ] at hn
        omega
      rw [if_neg (by omega), e1, ih (n / 10) h10 (by omega), e2]
      simp only [Option.bind_some]
      rw [w64 (by omega)]
      have e3 : ((48 + ((n % 10 : Nat) : Int)) % 256).toNat = 48 + n % 10 := by omega
      have hlen : (Lib.decDigits (n / 10)).length ≤ 21 := by
        have := Lib.itoa_length_le ((n / 10 : Nat) : Int) (by omega) (by omega)
        rwa [Lib.itoa_nonneg] at this
      rw [if_pos (by
        rw [strOfNums_size, bsize, bmk]
        simp only [List.length_cons, List.length_nil]
        omega)]
      congr 1
      apply bext
      rw [bapp, strOfNums_data, bmk, bmk]
      conv => rhs; rw [Lib.decDigits, dif_neg h]
      simp only [List.map_cons, List.map_nil, e3]
theorem digits_eq {k : Nat} (hk : 8 ≤ k) {n : Int} (h0 : 0 ≤ n) (h1 : n ≤ 1000000) : spec_l1Digits.f k n = some (dgs n) := by
  obtain ⟨m, rfl⟩ := Int.eq_ofNat_of_zero_le h0
  have h := digits_go 7 m (by have : (10 : Nat) ^ (7 + 1) = 100000000 := by decide
                              omega) (by omega)
  have := at_rounds (g := fun k => spec_l1Digits.f k (m : Int)) (spec_l1Digits.mono (m : Int)) hk h
  rw [show dgs (m : Int) = ⟨(Lib.decDigits m).toArray⟩ from bext (by rw [dgs_data, Lib.itoa_nonneg])]
  exact this
/-- Words behind a first one, a blank ahead of each. -/
def tailB (l : List Int) : List UInt8 := Lib.joinTail [32] (l.map Lib.itoa)
theorem tailB_cons (n : Int) (l : List Int) : tailB (n :: l) = 32 :: (Lib.itoa n ++ tailB l) := by
  simp [tailB, Lib.joinTail]
theorem tailB_len : ∀ (l : List Int), (∀ n ∈ l, 0 ≤ n ∧ n ≤ 1000000) → (tailB l).length ≤ 22 * l.length
  | [], _ => by simp [tailB, Lib.joinTail]
  | n :: l, h => by
    have h1 := tailB_len l (fun m hm => h m (by simp [hm]))
    have h2 := h n (by simp)
    have h3 := Lib.itoa_length_le n (by omega) (by omega)
    rw [tailB_cons]
    simp only [List.length_cons, List.length_append]
    omega

theorem impl_digits_eq {n : Int} (h0 : 0 ≤ n) (h1 : n ≤ 1000000) : impl_digits.f n = some (dgs n) := by
  unfold impl_digits.f
  have : strconv_FormatInt_102.f n 10 = some (dgs n) := by
    unfold strconv_FormatInt_102.f
    rw [if_pos rfl, if_pos (by omega), if_pos (by omega)]
    rfl
  rw [this]
  rfl

theorem join_words (w : ByteArray) (r : List Int) : Lib.join ((w :: r.map dgs).map (fun x => x.data.toList)) [32] = w.data.toList ++ tailB r := by
  rw [List.map_cons, Lib.join_cons]
  congr 1
  unfold tailB
  congr 1
  rw [List.map_map]
  exact List.map_congr_left (fun n _ => rfl)
theorem join_f {w : ByteArray} {r : List Int} (hw : w.size ≤ 1000) (hr : r.length ≤ 1000) (h : ∀ n ∈ r, 0 ≤ n ∧ n ≤ 1000000) : strings_Join.f (w :: r.map dgs) (⟨#[32]⟩ : ByteArray) = some ⟨(w.data.toList ++ tailB r).toArray⟩ := by
  unfold strings_Join.f
  have e : Lib.join ((w :: r.map dgs).map (fun x => x.data.toList)) (⟨#[32]⟩ : ByteArray).data.toList = w.data.toList ++ tailB r := join_words w r
  rw [e, if_pos (by simp; omega), if_pos]
  have h2 := tailB_len r h
  rw [bsize] at hw
  rw [List.length_append]
  omega


/-- Bytes, as the drawing functions read them. -/
def Bs (xs : List Int) : Prop := xs.length ≤ 2000000 ∧ ∀ y ∈ xs, 0 ≤ y ∧ y ≤ 255
theorem tmod_lt' {x a : Int} (h0 : 0 ≤ x) (ha : 1 ≤ a) : 0 ≤ Int.tmod x a ∧ Int.tmod x a < a := by
  rw [Int.tmod_eq_emod_of_nonneg h0]
  exact ⟨Int.emod_nonneg _ (by omega), Int.emod_lt_of_pos _ (by omega)⟩
theorem rd_byte {xs : List Int} (hb : Bs xs) {i : Int} (h0 : 0 ≤ i) (hi : i < (xs.length : Int)) : 0 ≤ rd xs i ∧ rd xs i ≤ 255 := by
  obtain ⟨n, rfl⟩ := Int.eq_ofNat_of_zero_le h0
  rw [rd_nat (show n < xs.length by omega)]
  exact hb.2 _ (List.getElem_mem _)
theorem next_some {xs : List Int} (hb : Bs xs) {s : Int} (h0 : 0 ≤ s) (h1 : s ≤ 100000) (a : Int) : ∃ v : Int, spec_l1Next.f xs s a = some (v, s + 1) ∧ (1 ≤ a → 0 ≤ v ∧ v < a) := by
  have e1 : wrap64 (s + 1) = s + 1 := w64 (by omega)
  have e2 : wrap64 (s + 1 - 1) = s := by rw [w64 (by omega)]; omega
  unfold spec_l1Next.f
  simp only [e1, e2]
  by_cases g1 : a < 1
  · rw [if_pos g1]
    exact ⟨0, rfl, fun h => by omega⟩
  rw [if_neg g1]
  by_cases g2 : (xs.length : Int) = 0
  · rw [if_pos g2, if_neg (by omega), w64 (by omega)]
    exact ⟨_, rfl, fun h => tmod_lt' (by omega) h⟩
  rw [if_neg g2]
  have hl := hb.1
  obtain ⟨m0, m1⟩ := tmod_lt' (x := s) (a := (xs.length : Int)) h0 (by omega)
  rw [if_pos m0, if_pos m1]
  have hd : Int.tdiv s (xs.length : Int) = s / (xs.length : Int) := Int.tdiv_eq_ediv_of_nonneg h0
  have hq0 : 0 ≤ s / (xs.length : Int) := Int.ediv_nonneg h0 (by omega)
  have hq1 : s / (xs.length : Int) ≤ s := Int.ediv_le_self _ h0
  obtain ⟨b0, b1⟩ := rd_byte hb m0 m1
  have e3 : wrap64 (Int.tdiv s (xs.length : Int)) = s / (xs.length : Int) := by rw [hd]; exact w64 (by omega)
  have e4 : wrap64 (s / (xs.length : Int) * 37) = s / (xs.length : Int) * 37 := w64 (by omega)
  have e5 : wrap64 (rd xs (Int.tmod s (xs.length : Int))) = rd xs (Int.tmod s (xs.length : Int)) := w64 (by omega)
  have e6 : wrap64 (rd xs (Int.tmod s (xs.length : Int)) + s / (xs.length : Int) * 37) = rd xs (Int.tmod s (xs.length : Int)) + s / (xs.length : Int) * 37 := w64 (by omega)
  simp only [e1, e2, e3, e4, e5, e6]
  by_cases g3 : a > 200
  · rw [if_pos g3]
    obtain ⟨n0, n1⟩ := tmod_lt' (x := s + 1) (a := (xs.length : Int)) (by omega) (by omega)
    rw [if_pos n0, if_pos n1, if_neg (by omega)]
    obtain ⟨c0, c1⟩ := rd_byte hb n0 n1
    have e7 : wrap64 (rd xs (Int.tmod (s + 1) (xs.length : Int))) = rd xs (Int.tmod (s + 1) (xs.length : Int)) := w64 (by omega)
    have e8 : wrap64 (rd xs (Int.tmod (s + 1) (xs.length : Int)) * 13) = rd xs (Int.tmod (s + 1) (xs.length : Int)) * 13 := w64 (by omega)
    have e9 : wrap64 ((rd xs (Int.tmod s (xs.length : Int)) + s / (xs.length : Int) * 37) * 251) = (rd xs (Int.tmod s (xs.length : Int)) + s / (xs.length : Int) * 37) * 251 := w64 (by omega)
    simp only [e7, e8, e9]
    refine ⟨_, rfl, fun h => tmod_lt' ?_ h⟩
    rw [w64 (x := (rd xs (Int.tmod s (xs.length : Int)) + s / (xs.length : Int) * 37) * 251 + rd xs (Int.tmod (s + 1) (xs.length : Int)) * 13) (by omega), w64 (by omega)]
    omega
  · rw [if_neg g3, if_neg (by omega)]
    exact ⟨_, rfl, fun h => tmod_lt' (by omega) h⟩
theorem pick_some {xs : List Int} (hb : Bs xs) {s : Int} (h0 : 0 ≤ s) (h1 : s ≤ 100000) (l : List Int) (hl : 1 ≤ l.length) : ∃ v : Int, spec_l1Pick.f xs s l = some (v, s + 1) := by
  obtain ⟨v, hv, hr⟩ := next_some hb h0 h1 (l.length : Int)
  obtain ⟨r0, r1⟩ := hr (by omega)
  unfold spec_l1Pick.f
  rw [hv]
  simp only [Option.bind_some]
  rw [if_pos r0, if_pos r1]
  exact ⟨_, rfl⟩


theorem way_ok {xs : List Int} (hl : xs.length = 7) : ∀ (d k i : Nat), xs.length - i = d → i ≤ xs.length → d < k → spec_l10Fault.l0 k xs (i : Int) = some 0 → ∀ j (hj : j < xs.length), i ≤ j → 0 ≤ xs[j] ∧ xs[j] ≤ 511 := by
  intro d
  induction d with
  | zero =>
    intro k i hd hi hk h j hj hij
    omega
  | succ d ih =>
    intro k i hd hi hk h j hj hij
    obtain ⟨k, rfl⟩ : ∃ m, k = m + 1 := ⟨k - 1, by omega⟩
    have hx : i < xs.length := by omega
    have g1 : (i : Int) < (xs.length : Int) := by omega
    have g2 : 0 ≤ (i : Int) := by omega
    simp only [spec_l10Fault.l0, spec_l1In_eq, Option.bind_some, if_pos g1, if_pos g2, decide_eq_true_eq] at h
    rw [rd_nat hx, w64n (by omega)] at h
    have key : (0 ≤ xs[i] ∧ xs[i] ≤ 511) ∧ spec_l10Fault.l0 k xs ((i + 1 : Nat) : Int) = some 0 := by
      by_cases h0 : (i : Int) = 0
      · rw [if_pos h0] at h
        split at h
        · rename_i q
          exact ⟨q, h⟩
        · simp at h
      · rw [if_neg h0] at h
        split at h
        · rename_i q
          exact ⟨by omega, h⟩
        · simp at h
    by_cases e : j = i
    · subst e
      exact key.1
    · exact ih k (i + 1) (by omega) (by omega) (by omega) key.2 j hj (by omega)
theorem spec_text_loop {xs : List Int} (hl : xs.length ≤ 10) (hx : ∀ n ∈ xs, 0 ≤ n ∧ n ≤ 511) : ∀ (d k i : Nat) (acc : ByteArray), xs.length - i = d → i ≤ xs.length → d + 10 < k → acc.size ≤ 100 * i → 1 ≤ i → spec_l10Text.l0 k xs acc (i : Int) = some ⟨(acc.data.toList ++ tailB (xs.drop i)).toArray⟩ := by
  intro d
  induction d with
  | zero =>
    intro k i acc hd hi hk ha h1
    obtain ⟨k, rfl⟩ : ∃ m, k = m + 1 := ⟨k - 1, by omega⟩
    simp only [spec_l10Text.l0]
    rw [if_neg (by omega), List.drop_eq_nil_of_le (by omega)]
    congr 1
    apply bext
    simp [tailB, Lib.joinTail]
  | succ d ih =>
    intro k i acc hd hi hk ha h1
    obtain ⟨k, rfl⟩ : ∃ m, k = m + 1 := ⟨k - 1, by omega⟩
    have hi' : i < xs.length := by omega
    obtain ⟨b0, b1⟩ := hx _ (List.getElem_mem hi')
    have hs := dgs_size b0 (by omega)
    have e1 : (acc ++ (⟨#[32]⟩ : ByteArray)).size = acc.size + 1 := by
      rw [bsize, bapp, List.length_append, ← bsize]
      rfl
    have e2 : (acc ++ (⟨#[32]⟩ : ByteArray) ++ dgs xs[i]).size = acc.size + 1 + (dgs xs[i]).size := by
      rw [bsize, bapp, List.length_append, ← bsize, ← bsize, e1]
    simp only [spec_l10Text.l0]
    rw [if_pos (by omega), if_pos (by omega), if_pos (by omega), rd_nat hi', digits_eq (by omega) b0 (by omega)]
    simp only [Option.bind_some]
    rw [if_pos (by omega), w64n (by omega), ih k (i + 1) _ (by omega) (by omega) (by omega) (by omega) (by omega), List.drop_eq_getElem_cons hi', tailB_cons]
    congr 1
    apply bext
    simp only [bmk, bapp, dgs_data]
    simp
theorem impl_text_loop {xs : List Int} (hl : xs.length ≤ 10) (hx : ∀ n ∈ xs, 0 ≤ n ∧ n ≤ 511) : ∀ (d k i : Nat), xs.length - i = d → i ≤ xs.length → d < k → impl_Way_text.l0 k ((xs.take i).map dgs) xs (xs.length : Int) (i : Int) = (strings_Join.f (xs.map dgs) (⟨#[32]⟩ : ByteArray)).bind fun t => some t := by
  intro d
  induction d with
  | zero =>
    intro k i hd hi hk
    obtain ⟨k, rfl⟩ : ∃ m, k = m + 1 := ⟨k - 1, by omega⟩
    simp only [impl_Way_text.l0]
    rw [if_neg (by omega), List.take_of_length_le (by omega)]
  | succ d ih =>
    intro k i hd hi hk
    obtain ⟨k, rfl⟩ : ∃ m, k = m + 1 := ⟨k - 1, by omega⟩
    have hi' : i < xs.length := by omega
    obtain ⟨b0, b1⟩ := hx _ (List.getElem_mem hi')
    simp only [impl_Way_text.l0]
    rw [if_pos (by omega), if_pos (by omega), if_pos (by omega), rd_nat hi', impl_digits_eq b0 (by omega)]
    simp only [Option.bind_some]
    rw [if_pos (by simp; omega), w64n (by omega), ← ih k (i + 1) (by omega) (by omega) (by omega), List.take_succ_eq_append_getElem hi', List.map_append]
    rfl
theorem bx {a b : ByteArray} (h : a.data.toList = b.data.toList) : a = b := by
  cases a
  cases b
  congr 1
  exact Array.toList_inj.1 h
theorem bz (s : ByteArray) : s.size = s.data.toList.length := by rw [Array.length_toList]; rfl
theorem bt_get (s : ByteArray) (i : Nat) (h : i < s.data.toList.length) : bt s (i : Int) = (s.data.toList[i].toNat : Int) := by
  have h' : ((i : Int)).toNat < s.size := by rw [bz]; simpa using h
  unfold bt
  rw [dif_pos h']
  rfl
/-- A text's words, told by the first byte. -/
def cutL : List UInt8 → List (List UInt8)
  | [] => [[]]
  | b :: l => if b = 32 then [] :: cutL l else (match cutL l with
    | h :: t => (b :: h) :: t
    | [] => [[b]])
def addH (p : List UInt8) : List (List UInt8) → List (List UInt8)
  | h :: t => (p ++ h) :: t
  | [] => [p]
theorem cutL_ne (b : UInt8) (l : List UInt8) (h : b ≠ 32) : cutL (b :: l) = addH [b] (cutL l) := by
  simp only [cutL, if_neg h]
  cases cutL l <;> rfl
theorem cutL_sp (l : List UInt8) : cutL (32 :: l) = [] :: cutL l := by simp [cutL]
theorem cutL_some (l : List UInt8) : ∃ h t, cutL l = h :: t := by
  induction l with
  | nil => exact ⟨_, _, rfl⟩
  | cons b l ih =>
    by_cases h : b = 32
    · subst h
      exact ⟨_, _, cutL_sp l⟩
    · obtain ⟨x, t, e⟩ := ih
      rw [cutL_ne b l h, e]
      exact ⟨_, _, rfl⟩
theorem addH_addH (p q : List UInt8) (w : List (List UInt8)) : addH p (addH q w) = addH (p ++ q) w := by
  cases w <;> simp [addH]
theorem addH_nil (l : List UInt8) : addH [] (cutL l) = cutL l := by
  obtain ⟨h, t, e⟩ := cutL_some l
  rw [e]
  rfl
theorem cutL_run (p l : List UInt8) (hp : ∀ b ∈ p, b ≠ 32) : cutL (p ++ l) = addH p (cutL l) := by
  induction p with
  | nil => rw [addH_nil]; rfl
  | cons b p ih =>
    rw [List.cons_append, cutL_ne b _ (hp b (by simp)), ih (fun x hx => hp x (by simp [hx])), addH_addH]
    rfl
theorem cutL_length (l : List UInt8) : (cutL l).length ≤ l.length + 1 := by
  induction l with
  | nil => simp [cutL]
  | cons b l ih =>
    by_cases h : b = 32
    · subst h
      rw [cutL_sp]
      simp
      omega
    · rw [cutL_ne b l h]
      obtain ⟨x, t, e⟩ := cutL_some l
      rw [e] at ih ⊢
      simp [addH] at ih ⊢
      omega
/-- The first blank. -/
theorem first_blank : ∀ l : List UInt8, (Lib.index l [32] = -1 ∧ ∀ b ∈ l, b ≠ 32) ∨ ∃ p r, l = p ++ 32 :: r ∧ (∀ b ∈ p, b ≠ 32) ∧ Lib.index l [32] = (p.length : Int)
  | [] => .inl ⟨rfl, by simp⟩
  | b :: l => by
    by_cases h : b = 32
    · subst h
      exact .inr ⟨[], l, rfl, by simp, by rw [Lib.index]; simp [List.isPrefixOf]⟩
    · have hp : ([32] : List UInt8).isPrefixOf (b :: l) = false := by simp [List.isPrefixOf, Ne.symm h]
      have hix : Lib.index (b :: l) [32] = if Lib.index l [32] == -1 then -1 else Lib.index l [32] + 1 := by rw [Lib.index, hp]; simp
      rcases first_blank l with ⟨h1, h2⟩ | ⟨p, r, h1, h2, h3⟩
      · refine .inl ⟨by rw [hix, h1]; rfl, fun x hx => ?_⟩
        rcases List.mem_cons.1 hx with rfl | hx
        · exact h
        · exact h2 x hx
      · refine .inr ⟨b :: p, r, by rw [h1]; rfl, fun x hx => ?_, ?_⟩
        · rcases List.mem_cons.1 hx with rfl | hx
          · exact h
          · exact h2 x hx
        · rw [hix, h3, if_neg (by simp), List.length_cons]
          omega
theorem split_words : ∀ (n : Nat) (s : ByteArray), s.data.toList.length ≤ n → (Lib.splitB ⟨#[32]⟩ 0 (Lib.countB s ⟨#[32]⟩) s).map (fun x => x.data.toList) = cutL s.data.toList
  | n, s, hn => by
    rcases first_blank s.data.toList with ⟨h1, h2⟩ | ⟨p, r, h1, h2, h3⟩
    · have hm : Lib.indexB s ⟨#[32]⟩ = -1 := h1
      rw [Lib.splitB_miss _ _ _ _ hm]
      have := cutL_run s.data.toList [] h2
      rw [List.append_nil] at this
      rw [this]
      simp [cutL, addH]
    · have hm : Lib.indexB s ⟨#[32]⟩ = (p.length : Int) := h3
      have hc := Lib.countB_hit s ⟨#[32]⟩ p.length (by decide) hm
      rw [hc, Nat.add_comm 1, Lib.splitB_hit _ _ _ _ _ hm, List.map_cons]
      have e1 : (s.extract (p.length + (⟨#[32]⟩ : ByteArray).size) s.size).data.toList = r := by
        rw [Lib.extract_to_end, h1, show (⟨#[32]⟩ : ByteArray).size = 1 from rfl]
        simp
      have e0 : (s.extract 0 (p.length + 0)).data.toList = p := by
        rw [Lib.extract_data, h1]
        simp
      cases n with
      | zero =>
        rw [h1] at hn
        simp at hn
      | succ n =>
        rw [split_words n _ (by rw [e1]; rw [h1] at hn; simp at hn; omega), e0, e1, h1, cutL_run p _ h2, cutL_sp]
        simp [addH]
set_option maxHeartbeats 800000 in
theorem cut_loop (s : ByteArray) (hs : s.size ≤ 1048576) : ∀ (l : List UInt8) (k i f : Nat) (p : List UInt8) (out : List ByteArray), s.data.toList.drop f = p ++ l → i = f + p.length → i ≤ s.size → (∀ b ∈ p, b ≠ 32) → l.length + 1 < k → out.length ≤ i →
    ∃ r, spec_l10Cut.l0 k s 32 out (f : Int) (i : Int) = some r ∧ r.map (fun x => x.data.toList) = out.map (fun x => x.data.toList) ++ addH p (cutL l)
  | l, k, i, f, p, out, hd, hi, hz, hp, hk, ho => by
    obtain ⟨k, rfl⟩ : ∃ m, k = m + 1 := ⟨k - 1, by omega⟩
    have hlen := congrArg List.length hd
    rw [List.length_drop, List.length_append, ← bz] at hlen
    have hl : l.length = s.size - i := by omega
    have hx : (s.extract ((f : Int)).toNat ((i : Int)).toNat).data.toList = p := by
      rw [Lib.extract_data]
      simp only [Int.toNat_natCast]
      rw [hd, hi, show f + p.length - f = p.length by omega]
      simp
    simp only [spec_l10Cut.l0]
    rw [if_pos (by omega)]
    cases l with
    | nil =>
      simp at hl
      have e : (i : Int) = (s.size : Int) := by omega
      rw [if_pos e, if_pos (by omega), if_pos (by omega), if_pos (by omega)]
      obtain ⟨k, rfl⟩ : ∃ m, k = m + 1 := ⟨k - 1, by simp at hk; omega⟩
      simp only [spec_l10Cut.l0]
      rw [w64n (by omega), if_neg (by omega)]
      refine ⟨_, rfl, ?_⟩
      rw [List.map_append, List.map_cons, List.map_nil, hx]
      simp [cutL, addH]
    | cons b l =>
      simp at hl
      have hlt : i < s.data.toList.length := by rw [← bz]; omega
      have hb : s.data.toList[i] = b := by
        have h1 : (s.data.toList.drop f)[p.length]? = some b := by rw [hd]; simp
        rw [List.getElem?_drop, ← hi, List.getElem?_eq_getElem hlt] at h1
        exact Option.some.inj h1
      rw [if_neg (by omega), if_pos (by omega), if_pos (by omega), bt_get s i hlt, hb]
      by_cases h32 : b = 32
      · subst h32
        rw [if_pos (by decide), if_pos (by omega), if_pos (by omega), if_pos (by omega), w64n (by omega)]
        obtain ⟨r, h1, h2⟩ := cut_loop s hs l k (i + 1) (i + 1) [] (out ++ [s.extract ((f : Int)).toNat ((i : Int)).toNat]) (by
          have h3 : s.data.toList.drop (f + (p.length + 1)) = l := by
            rw [← List.drop_drop, hd]
            simp
          rw [List.nil_append, ← h3]
          congr 1
          omega) (by simp) (by omega) (by simp) (by simp at hk; omega) (by simp; omega)
        refine ⟨r, h1, ?_⟩
        rw [h2, cutL_sp, addH_nil, List.map_append, List.map_cons, List.map_nil, hx]
        simp [addH]
      · have hne : ¬ ((b.toNat : Int) = 32) := by
          intro h
          apply h32
          apply UInt8.toNat_inj.1
          have : b.toNat = 32 := by omega
          rw [this]
          rfl
        rw [if_neg hne, w64n (by omega)]
        obtain ⟨r, h1, h2⟩ := cut_loop s hs l k (i + 1) f (p ++ [b]) out (by rw [hd]; simp) (by simp; omega) (by omega) (by
          intro x hx
          rcases List.mem_append.1 hx with h | h
          · exact hp x h
          · simp at h
            subst h
            exact h32) (by simp at hk; omega) (by omega)
        refine ⟨r, h1, ?_⟩
        rw [h2, cutL_ne b l h32, addH_addH]
theorem map_inj {xs ys : List ByteArray} (h : xs.map (fun x => x.data.toList) = ys.map (fun x => x.data.toList)) : xs = ys := by
  induction xs generalizing ys with
  | nil =>
    cases ys with
    | nil => rfl
    | cons _ _ => simp at h
  | cons x xs ih =>
    cases ys with
    | nil => simp at h
    | cons y ys =>
      simp only [List.map_cons, List.cons.injEq] at h
      rw [bx h.1, ih h.2]
/-- The words of both. -/
theorem words_same (s : ByteArray) (hs : s.size ≤ 1048576) (k : Nat) (hk : s.size + 2 ≤ k) : ∃ ws, spec_l10Cut.f k s 32 = some ws ∧ strings_Split.f s (⟨#[32]⟩ : ByteArray) = some ws ∧ ws.length ≤ s.size + 1 := by
  obtain ⟨r, h1, h2⟩ := cut_loop s hs s.data.toList k 0 0 [] [] (by simp) (by simp) (by omega) (by simp) (by rw [← bz]; omega) (by simp)
  refine ⟨r, h1, ?_, ?_⟩
  · unfold strings_Split.f splitF
    rw [if_pos (by omega), if_pos (by decide)]
    congr 1
    apply map_inj
    rw [split_words _ s (Nat.le_refl _), h2, addH_nil]
    simp
  · have := congrArg List.length h2
    rw [List.length_map, addH_nil] at this
    have h3 := cutL_length s.data.toList
    rw [← bz] at h3
    simp at this
    omega
/-- A decimal digit. -/
def dig (b : UInt8) : Prop := 48 ≤ b.toNat ∧ b.toNat ≤ 57
instance (b : UInt8) : Decidable (dig b) := by unfold dig; infer_instance
def val : List UInt8 → Nat → Nat
  | [], a => a
  | b :: l, a => val l (a * 10 + (b.toNat - 48))
/-- A number of one to four digits, no 0 ahead; -1: it is none. -/
def numS (l : List UInt8) : Int := if l.length < 1 ∨ 4 < l.length ∨ (1 < l.length ∧ l.head? = some 48) then -1 else if ∀ b ∈ l, dig b then (val l 0 : Int) else -1
theorem num_step (a b : Nat) (ha : a ≤ 9999) (h2 : 48 ≤ b) (h3 : b ≤ 57) : wrap64 ((wrap64 ((a : Int) * 10)) + (((b : Int) - 48) % 256)) = ((a * 10 + (b - 48) : Nat) : Int) := by
  have e1 : wrap64 ((a : Int) * 10) = ((a * 10 : Nat) : Int) := by rw [w64 (by omega)]; omega
  have e2 : ((b : Int) - 48) % 256 = ((b - 48 : Nat) : Int) := by omega
  rw [e1, e2, w64 (by omega)]
  omega
set_option maxHeartbeats 800000 in
theorem num_loop (s : ByteArray) (hs : s.size ≤ 4) : ∀ (l : List UInt8) (k i a : Nat), s.data.toList.drop i = l → i ≤ s.size → l.length < k → ((i = 0 ∧ a = 0) ∨ (i = 1 ∧ a ≤ 9) ∨ (i = 2 ∧ a ≤ 99) ∨ (i = 3 ∧ a ≤ 999) ∨ (i = 4 ∧ a ≤ 9999)) →
    spec_l10Number.l0 k s (a : Int) (i : Int) = some (if ∀ b ∈ l, dig b then (val l a : Int) else -1)
  | l, k, i, a, hd, hi, hk, ha => by
    obtain ⟨k, rfl⟩ : ∃ m, k = m + 1 := ⟨k - 1, by omega⟩
    have hlen := congrArg List.length hd
    rw [List.length_drop, ← bz] at hlen
    have ha' : a ≤ 9999 := by omega
    have HA := Aside0.mk ha
    clear ha
    simp only [spec_l10Number.l0]
    cases l with
    | nil =>
      simp at hlen
      rw [if_neg (by omega), if_pos (by simp)]
      rfl
    | cons b l =>
      simp at hlen
      have hlt : i < s.data.toList.length := by rw [← bz]; omega
      have hb : s.data.toList[i] = b := by
        have h1 : (s.data.toList.drop i)[0]? = some b := by rw [hd]; simp
        rw [List.getElem?_drop, Nat.add_zero, List.getElem?_eq_getElem hlt] at h1
        exact Option.some.inj h1
      rw [if_pos (by omega), if_pos (by omega), bt_get s i hlt, hb]
      by_cases h1 : dig b
      · obtain ⟨h2, h3⟩ := h1
        rw [if_neg (by omega), if_neg (by omega), w64n (n := i) (by omega)]
        rw [num_step a b.toNat ha' h2 h3, num_loop s hs l k (i + 1) (a * 10 + (b.toNat - 48)) (by
          have h4 : s.data.toList.drop (i + 1) = (s.data.toList.drop i).drop 1 := by rw [List.drop_drop]
          rw [h4, hd]
          rfl) (by omega) (by simp at hk; omega) (by
          rcases HA.out with h | h | h | h | h
          · exact .inr (.inl ⟨by omega, by omega⟩)
          · exact .inr (.inr (.inl ⟨by omega, by omega⟩))
          · exact .inr (.inr (.inr (.inl ⟨by omega, by omega⟩)))
          · exact .inr (.inr (.inr (.inr ⟨by omega, by omega⟩)))
          · omega)]
        congr 1
        by_cases hq : ∀ x ∈ l, dig x
        · rw [if_pos hq, if_pos (by
            intro x hx
            rcases List.mem_cons.1 hx with rfl | hx
            · exact ⟨h2, h3⟩
            · exact hq x hx)]
          rfl
        · rw [if_neg hq, if_neg (fun h => hq (fun x hx => h x (by simp [hx])))]
      · rw [if_neg (fun h : ∀ x ∈ b :: l, dig x => h1 (h b (by simp)))]
        unfold dig at h1
        by_cases h2 : (b.toNat : Int) < 48
        · rw [if_pos h2]
        · rw [if_neg h2, if_pos (by omega)]
theorem spec_num (s : ByteArray) (k : Nat) : spec_l10Number.f (k + 8) s = some (numS s.data.toList) := by
  unfold spec_l10Number.f numS
  rw [← bz]
  by_cases h1 : (s.size : Int) < 1
  · rw [if_pos h1, if_pos (by omega)]
    simp [spec_l10Number.j0]
  rw [if_neg h1]
  by_cases h2 : (s.size : Int) > 4
  · rw [if_pos h2, if_pos (by omega)]
    simp [spec_l10Number.j0]
  rw [if_neg h2]
  have go : spec_l10Number.l0 (k + 7) s 0 0 = some (if ∀ b ∈ s.data.toList, dig b then (val s.data.toList 0 : Int) else -1) :=
    num_loop s (by omega) s.data.toList (k + 7) 0 0 (by simp) (by omega) (by rw [← bz]; omega) (by omega)
  by_cases h3 : (s.size : Int) > 1
  · rw [if_pos h3, if_pos (by omega)]
    have hlt : 0 < s.data.toList.length := by rw [← bz]; omega
    have e : bt s 0 = (s.data.toList[0].toNat : Int) := bt_get s 0 hlt
    have eh : s.data.toList.head? = some s.data.toList[0] := by
      rw [List.head?_eq_getElem?, List.getElem?_eq_getElem hlt]
    rw [e, eh]
    by_cases h4 : s.data.toList[0] = 48
    · rw [if_pos (.inr (.inr ⟨by omega, by rw [h4]⟩)), h4]
      simp [spec_l10Number.j0]
    · have hne : ¬ ((s.data.toList[0].toNat : Int) = 48) := by
        intro h
        apply h4
        apply UInt8.toNat_inj.1
        have : s.data.toList[0].toNat = 48 := by omega
        rw [this]
        rfl
      rw [if_neg (by
        rintro (h | h | ⟨_, h⟩)
        · omega
        · omega
        · exact h4 (Option.some.inj h)), beq_eq_false_iff_ne.mpr hne]
      simp only [spec_l10Number.j0, Bool.false_eq_true, if_false]
      exact go
  · rw [if_neg h3, if_neg (by omega)]
    simp only [spec_l10Number.j0, Bool.false_eq_true, if_false]
    exact go
theorem of_dig {b : UInt8} (h : dig b) : UInt8.ofNat (48 + (b.toNat - 48)) = b := by
  unfold dig at h
  rw [show 48 + (b.toNat - 48) = b.toNat by omega, UInt8.ofNat_toNat]
theorem dd_step (n d : Nat) (h : 1 ≤ n) (hd : d ≤ 9) : Lib.decDigits (n * 10 + d) = Lib.decDigits n ++ [UInt8.ofNat (48 + d)] := by
  rw [Lib.decDigits, dif_neg (by omega), show (n * 10 + d) / 10 = n by omega, show (n * 10 + d) % 10 = d by omega]
theorem dd_dig : ∀ (m n : Nat), n ≤ m → (∀ b ∈ Lib.decDigits n, dig b) ∧ ∃ c r, Lib.decDigits n = c :: r ∧ (1 ≤ n → c ≠ 48) ∧ (n < 10 → r = [])
  | m, n, hm => by
    have dg : ∀ d, d ≤ 9 → (UInt8.ofNat (48 + d)).toNat = 48 + d := fun d hd => by
      rw [UInt8.toNat_ofNat_of_lt' (show 48 + d < 256 by omega)]
    by_cases h : n < 10
    · rw [Lib.decDigits_one h]
      refine ⟨fun b hb => ?_, _, _, rfl, fun h1 he => ?_, fun _ => rfl⟩
      · obtain rfl := List.mem_singleton.1 hb
        unfold dig
        rw [dg n (by omega)]
        omega
      · have := congrArg UInt8.toNat he
        rw [dg n (by omega)] at this
        have h48 : (48 : UInt8).toNat = 48 := rfl
        omega
    · cases m with
      | zero => omega
      | succ m =>
        obtain ⟨h1, c, r, h2, h3, _⟩ := dd_dig m (n / 10) (by omega)
        have e := dd_step (n / 10) (n % 10) (by omega) (by omega)
        rw [show n / 10 * 10 + n % 10 = n by omega] at e
        rw [e]
        refine ⟨fun b hb => ?_, c, r ++ [UInt8.ofNat (48 + n % 10)], by rw [h2]; rfl, fun _ => h3 (by omega), fun h => by omega⟩
        rcases List.mem_append.1 hb with hb | hb
        · exact h1 b hb
        · obtain rfl := List.mem_singleton.1 hb
          unfold dig
          rw [dg (n % 10) (by omega)]
          omega
theorem pu_step (acc : Nat) (c : UInt8) (r : List UInt8) (h : dig c) (h1 : acc ≤ 100000) : Lib.parseUintM (2 ^ 64 - 1) acc (c :: r) = Lib.parseUintM (2 ^ 64 - 1) (acc * 10 + (c.toNat - 48)) r := by
  have h2 := h
  unfold dig at h2
  simp only [Lib.parseUintM]
  rw [if_pos h2, if_neg (by omega), if_neg (by omega)]
theorem parse_good (c : UInt8) (r : List UInt8) (h : dig c) (v : Nat) (hv : v ≤ 100000) (hp : Lib.parseUintM (2 ^ 64 - 1) 0 (c :: r) = .ok v) : Lib.parseIntB 64 (c :: r) = .ok (v : Int) := by
  unfold dig at h
  rw [Lib.parseIntB_plain 64 c r (by omega) (by omega)]
  unfold Lib.parseUintB
  rw [if_neg (by simp), hp]
  unfold Lib.signlessC
  simp only []
  rw [if_neg (by omega)]
set_option maxHeartbeats 800000 in
theorem good_num (l : List UInt8) (h1 : 1 ≤ l.length) (h4 : l.length ≤ 4) (hz : 1 < l.length → l.head? ≠ some 48) (hd : ∀ b ∈ l, dig b) : Lib.parseIntB 64 l = .ok (val l 0 : Int) ∧ Lib.itoa (val l 0 : Int) = l := by
  have nz : ∀ {a : UInt8}, dig a → a ≠ 48 → 1 ≤ a.toNat - 48 := fun {a} h hne => by
    unfold dig at h
    have : a.toNat ≠ 48 := fun he => hne (UInt8.toNat_inj.1 (by rw [he]; rfl))
    omega
  match l, h1, h4, hz, hd with
  | [a], _, _, _, hd =>
    have da := hd a (by simp)
    have da' := da
    unfold dig at da'
    have e : val [a] 0 = a.toNat - 48 := by simp [val]
    rw [e, Lib.itoa_nonneg, Lib.decDigits_one (by omega), of_dig da]
    exact ⟨parse_good a [] da _ (by omega) (by rw [pu_step 0 a [] da (by omega), Nat.zero_mul, Nat.zero_add]; rfl), rfl⟩
  | [a, b], _, _, hz, hd =>
    have da := hd a (by simp)
    have db := hd b (by simp)
    have n1 := nz da (fun he => hz (by simp) (by rw [he]; rfl))
    have da' := da
    have db' := db
    unfold dig at da' db'
    have e : val [a, b] 0 = (a.toNat - 48) * 10 + (b.toNat - 48) := by simp [val]
    rw [e, Lib.itoa_nonneg, dd_step _ _ n1 (by omega), Lib.decDigits_one (by omega), of_dig da, of_dig db]
    exact ⟨parse_good a [b] da _ (by omega) (by rw [pu_step 0 a _ da (by omega), Nat.zero_mul, Nat.zero_add, pu_step _ b _ db (by omega)]; rfl), rfl⟩
  | [a, b, c], _, _, hz, hd =>
    have da := hd a (by simp)
    have db := hd b (by simp)
    have dc := hd c (by simp)
    have n1 := nz da (fun he => hz (by simp) (by rw [he]; rfl))
    have da' := da
    have db' := db
    have dc' := dc
    unfold dig at da' db' dc'
    have e : val [a, b, c] 0 = ((a.toNat - 48) * 10 + (b.toNat - 48)) * 10 + (c.toNat - 48) := by simp [val]
    rw [e, Lib.itoa_nonneg, dd_step _ _ (by omega) (by omega), dd_step _ _ n1 (by omega), Lib.decDigits_one (by omega), of_dig da, of_dig db, of_dig dc]
    exact ⟨parse_good a [b, c] da _ (by omega) (by rw [pu_step 0 a _ da (by omega), Nat.zero_mul, Nat.zero_add, pu_step _ b _ db (by omega), pu_step _ c _ dc (by omega)]; rfl), rfl⟩
  | [a, b, c, d], _, _, hz, hd =>
    have da := hd a (by simp)
    have db := hd b (by simp)
    have dc := hd c (by simp)
    have de := hd d (by simp)
    have n1 := nz da (fun he => hz (by simp) (by rw [he]; rfl))
    have da' := da
    have db' := db
    have dc' := dc
    have de' := de
    unfold dig at da' db' dc' de'
    have e : val [a, b, c, d] 0 = (((a.toNat - 48) * 10 + (b.toNat - 48)) * 10 + (c.toNat - 48)) * 10 + (d.toNat - 48) := by simp [val]
    rw [e, Lib.itoa_nonneg, dd_step _ _ (by omega) (by omega), dd_step _ _ (by omega) (by omega), dd_step _ _ n1 (by omega), Lib.decDigits_one (by omega), of_dig da, of_dig db, of_dig dc, of_dig de]
    exact ⟨parse_good a [b, c, d] da _ (by omega) (by rw [pu_step 0 a _ da (by omega), Nat.zero_mul, Nat.zero_add, pu_step _ b _ db (by omega), pu_step _ c _ dc (by omega), pu_step _ d _ de (by omega)]; rfl), rfl⟩
/-- What the two tell of a word. -/
theorem num_both (s : ByteArray) : ((numF s).2 = true ∧ (numF s).1 = numS s.data.toList ∧ 0 ≤ numS s.data.toList) ∨ ((numF s).2 = false ∧ numS s.data.toList = -1) := by
  by_cases hg : (1 ≤ s.data.toList.length ∧ s.data.toList.length ≤ 4 ∧ (1 < s.data.toList.length → s.data.toList.head? ≠ some 48)) ∧ ∀ b ∈ s.data.toList, dig b
  · obtain ⟨⟨g1, g2, g3⟩, g4⟩ := hg
    obtain ⟨p1, p2⟩ := good_num _ g1 g2 g3 g4
    left
    have e : numS s.data.toList = (val s.data.toList 0 : Int) := by
      unfold numS
      rw [if_neg (by
        rintro (h | h | ⟨h, h'⟩)
        · omega
        · omega
        · exact g3 h h'), if_pos g4]
    unfold numF
    rw [p1, e]
    simp only []
    rw [if_pos (by omega), if_pos (by rw [bz]; exact g2)]
    refine ⟨?_, by first | rfl | trivial, by omega⟩
    rw [decide_eq_true_eq, p2]
  · right
    have e : numS s.data.toList = -1 := by
      unfold numS
      by_cases h : s.data.toList.length < 1 ∨ 4 < s.data.toList.length ∨ (1 < s.data.toList.length ∧ s.data.toList.head? = some 48)
      · rw [if_pos h]
      · rw [if_neg h, if_neg]
        intro hq
        apply hg
        refine ⟨⟨by omega, by omega, fun h1 h2 => h (.inr (.inr ⟨h1, h2⟩))⟩, hq⟩
    refine ⟨?_, e⟩
    unfold numF
    rcases hp : Lib.parseIntB 64 s.data.toList with v | _ | _
    rotate_left
    · rfl
    · rfl
    · simp only []
      by_cases h0 : 0 ≤ v
      · rw [if_pos h0]
        by_cases h4 : s.size ≤ 4
        · rw [if_pos h4, decide_eq_false]
          intro hq
          have hq2 : Lib.itoa v = s.data.toList := by
            have := congrArg (fun l => l) hq
            simpa [ByteArray.toList_eq] using this
          obtain ⟨n, rfl⟩ := Int.eq_ofNat_of_zero_le h0
          rw [Lib.itoa_nonneg] at hq2
          obtain ⟨d1, c, r, d2, d3, d4⟩ := dd_dig n n (Nat.le_refl _)
          apply hg
          rw [← hq2]
          refine ⟨⟨by rw [d2]; simp, by rw [hq2, ← bz]; exact h4, fun hl he => ?_⟩, d1⟩
          rw [d2] at hl he
          simp at he
          by_cases hn : n < 10
          · rw [d4 hn] at hl
            simp at hl
          · exact d3 (by omega) he
        · rw [if_neg h4]
      · rw [if_neg h0]
def nums (ws : List ByteArray) : List Int := ws.map (fun w => numS w.data.toList)
theorem read_some {w : ByteArray} (h : w.size ≤ 281474976710656) : impl_readNumber.f w = some (numF w) := by
  unfold impl_readNumber.f
  rw [if_pos h]
/-- What stands behind the reference's loop, and behind the program's. -/
theorem spec_end (xs : List Int) (hl : xs.length = 7) (k : Nat) (ws : List ByteArray) : spec_l10Parse.l0 (k + 12) ws xs 7 = (spec_l10Fault.f (k + 11) (rd xs 0) (rd xs 1) (rd xs 2) (rd xs 3) (rd xs 4) (rd xs 5) (rd xs 6)).bind fun t => some (rd xs 0, rd xs 1, rd xs 2, rd xs 3, rd xs 4, rd xs 5, rd xs 6, (t == 0)) := by
  simp only [spec_l10Parse.l0]
  rw [if_neg (by omega), if_pos (by omega), if_pos (by omega), if_pos (by omega), if_pos (by omega), if_pos (by omega), if_pos (by omega), if_pos (by omega)]
theorem spec_loop (ws : List ByteArray) (hw : ws.length = 7) : ∀ (d k i : Nat), 7 - i = d → i ≤ 7 → spec_l10Parse.l0 (k + 12 + d) ws ((nums ws).take i) (i : Int) = spec_l10Parse.l0 (k + 12) ws (nums ws) 7 := by
  intro d
  induction d with
  | zero =>
    intro k i hd hi
    obtain rfl : i = 7 := by omega
    rw [List.take_of_length_le (by simp [nums, hw])]
    rfl
  | succ d ih =>
    intro k i hd hi
    have hlt : i < ws.length := by omega
    have e1 : spec_l10Parse.l0 (k + 12 + (d + 1)) ws ((nums ws).take i) (i : Int) = spec_l10Parse.l0 (k + 12 + d) ws ((nums ws).take i ++ [numS ws[i].data.toList]) ((i + 1 : Nat) : Int) := by
      rw [show k + 12 + (d + 1) = (k + 12 + d) + 1 by omega]
      simp only [spec_l10Parse.l0]
      rw [if_pos (by omega), if_pos (by omega), if_pos (by omega), rdOf_nat hlt, show k + 12 + d = (k + 4 + d) + 8 by omega, spec_num, Option.bind_some, if_pos (by rw [List.length_take]; omega), w64n (n := i) (by omega)]
    rw [e1, ← ih k (i + 1) (by omega) (by omega)]
    congr 1
    rw [List.take_add_one]
    congr 1
    unfold nums
    rw [List.getElem?_map, List.getElem?_eq_getElem hlt]
    rfl
theorem impl_bad (ws : List ByteArray) (hz : ∀ w ∈ ws, w.size ≤ 281474976710656) (hn : ws.length ≤ 2000000) : ∀ (d k i : Nat) (acc : List Int), ws.length - i = d → i ≤ ws.length → d < k → acc.length ≤ i → (∃ w ∈ ws.drop i, (numF w).2 = false) →
    impl_ParseWay.l0 k acc ws (ws.length : Int) (i : Int) = some (5, 0, 0, 0, 0, 0, 0, 0) := by
  intro d
  induction d with
  | zero =>
    intro k i acc hd hi hk ha hb
    obtain ⟨w, hw, _⟩ := hb
    rw [List.drop_eq_nil_of_le (by omega)] at hw
    cases hw
  | succ d ih =>
    intro k i acc hd hi hk ha hb
    obtain ⟨k, rfl⟩ : ∃ m, k = m + 1 := ⟨k - 1, by omega⟩
    have hlt : i < ws.length := by omega
    simp only [impl_ParseWay.l0]
    rw [if_pos (by omega), if_pos (by omega), if_pos (by omega), rdOf_nat hlt, read_some (hz _ (List.getElem_mem hlt)), Option.bind_some]
    by_cases h2 : (numF ws[i]).2 = true
    · rw [if_pos h2, if_pos (by omega), w64n (n := i) (by omega)]
      refine ih k (i + 1) _ (by omega) (by omega) (by omega) (by simp; omega) ?_
      obtain ⟨w, hw, h3⟩ := hb
      rw [List.drop_eq_getElem_cons hlt] at hw
      rcases List.mem_cons.1 hw with rfl | hw
      · rw [h2] at h3
        cases h3
      · exact ⟨w, hw, h3⟩
    · rw [if_neg h2]
theorem impl_good (ws : List ByteArray) (hz : ∀ w ∈ ws, w.size ≤ 281474976710656) (hn : ws.length ≤ 2000000) (hg : ∀ w ∈ ws, (numF w).2 = true ∧ (numF w).1 = numS w.data.toList) : ∀ (d k i : Nat), ws.length - i = d → i ≤ ws.length →
    impl_ParseWay.l0 (k + 12 + d) ((nums ws).take i) ws (ws.length : Int) (i : Int) = impl_ParseWay.l0 (k + 12) (nums ws) ws (ws.length : Int) (ws.length : Int) := by
  intro d
  induction d with
  | zero =>
    intro k i hd hi
    obtain rfl : i = ws.length := by omega
    rw [List.take_of_length_le (by simp [nums]), Nat.add_zero]
  | succ d ih =>
    intro k i hd hi
    have hlt : i < ws.length := by omega
    obtain ⟨g1, g2⟩ := hg _ (List.getElem_mem hlt)
    have e1 : impl_ParseWay.l0 (k + 12 + (d + 1)) ((nums ws).take i) ws (ws.length : Int) (i : Int) = impl_ParseWay.l0 (k + 12 + d) ((nums ws).take i ++ [numS ws[i].data.toList]) ws (ws.length : Int) ((i + 1 : Nat) : Int) := by
      rw [show k + 12 + (d + 1) = (k + 12 + d) + 1 by omega]
      simp only [impl_ParseWay.l0]
      rw [if_pos (by omega), if_pos (by omega), if_pos (by omega), rdOf_nat hlt, read_some (hz _ (List.getElem_mem hlt)), Option.bind_some, if_pos g1, if_pos (by rw [List.length_take]; omega), w64n (n := i) (by omega), g2]
    rw [e1, ← ih k (i + 1) (by omega) (by omega)]
    congr 1
    rw [List.take_add_one]
    congr 1
    unfold nums
    rw [List.getElem?_map, List.getElem?_eq_getElem hlt]
    rfl
theorem rd_ok {xs : List Int} {r : Int} (hl : xs.length = 7) (k : Nat) (h : spec_l10Fault.f (k + 10) (rd xs 0) (rd xs 1) (rd xs 2) (rd xs 3) (rd xs 4) (rd xs 5) (rd xs 6) = some 0) : ∀ x ∈ xs, 0 ≤ x := by
  match xs, hl with
  | [a, b, c, d, e, f, g], _ =>
    have h' : spec_l10Fault.l0 (k + 10) [a, b, c, d, e, f, g] ((0 : Nat) : Int) = some 0 := h
    intro x hx
    obtain ⟨j, hj, rfl⟩ := List.getElem_of_mem hx
    exact (way_ok (xs := [a, b, c, d, e, f, g]) rfl 7 (k + 10) 0 rfl (Nat.zero_le _) (by omega) h' j hj (Nat.zero_le _)).1
theorem one_bit : ∀ n : Fin 512, bits .and .i64 (n.val : Int) ((n.val : Int) - 1) = 0 → n.val ∈ [0, 1, 2, 4, 8, 16, 32, 64, 128, 256] := by decide +kernel
theorem has_30 (a b c d e f g n : Int) : ∃ v : Bool, spec_HasFlag.f 30 a b c d e f g n = some v ∧ impl_HasFlag.f 30 a b c d e f g n = some v := by
    obtain ⟨r, hr⟩ := way_fault a b c d e f g
    unfold spec_HasFlag.f impl_HasFlag.f impl_Way_has.f
    rw [(hr 30 (by omega)).2]
    simp only [impl_in_eq, Option.bind_some]
    have step : ∀ (k : Nat) (p p2 : Int), 10 ≤ k → p ≤ 256 → wrap64 (2 * p) = p2 → spec_HasFlag.l0 (k + 1) n p a b c d e f g =
        if p = n then (if r = 0 then some (bits .and .i64 a n != 0) else some false) else spec_HasFlag.l0 k n p2 a b c d e f g := by
      intro k p p2 hk hb hw
      simp only [spec_HasFlag.l0]
      rw [if_pos hb, (hr k hk).1, hw]
      unfold spec_l10Has.f
      simp only [Option.bind_some]
    have last : spec_HasFlag.l0 21 n 512 a b c d e f g = some false := by
      simp only [spec_HasFlag.l0]
      rw [if_neg (by omega)]
    rw [step 29 1 2 (by omega) (by omega) (by unfold wrap64; omega), step 28 2 4 (by omega) (by omega) (by unfold wrap64; omega), step 27 4 8 (by omega) (by omega) (by unfold wrap64; omega), step 26 8 16 (by omega) (by omega) (by unfold wrap64; omega), step 25 16 32 (by omega) (by omega) (by unfold wrap64; omega), step 24 32 64 (by omega) (by omega) (by unfold wrap64; omega), step 23 64 128 (by omega) (by omega) (by unfold wrap64; omega), step 22 128 256 (by omega) (by omega) (by unfold wrap64; omega), step 21 256 512 (by omega) (by omega) (by unfold wrap64; omega), last]
    by_cases hb : n = 1 ∨ n = 2 ∨ n = 4 ∨ n = 8 ∨ n = 16 ∨ n = 32 ∨ n = 64 ∨ n = 128 ∨ n = 256
    · have h3 : bits .and .i64 n (wrap64 (n - 1)) = 0 := by
        rcases hb with rfl | rfl | rfl | rfl | rfl | rfl | rfl | rfl | rfl <;> (rw [w64 (by omega)]; decide +kernel)
      have h4 : 1 ≤ n ∧ n ≤ 511 := by omega
      have h5 : ∃ i : Nat, i < 62 ∧ n = 2 ^ i ∧ n ≠ 0 := by
        rcases hb with rfl | rfl | rfl | rfl | rfl | rfl | rfl | rfl | rfl
        · exact ⟨0, by omega, by decide, by decide⟩
        · exact ⟨1, by omega, by decide, by decide⟩
        · exact ⟨2, by omega, by decide, by decide⟩
        · exact ⟨3, by omega, by decide, by decide⟩
        · exact ⟨4, by omega, by decide, by decide⟩
        · exact ⟨5, by omega, by decide, by decide⟩
        · exact ⟨6, by omega, by decide, by decide⟩
        · exact ⟨7, by omega, by decide, by decide⟩
        · exact ⟨8, by omega, by decide, by decide⟩
      obtain ⟨i, hi, hni, hn0⟩ := h5
      have h6 : (bits .and .i64 a n != 0) = (bits .and .i64 a n == n) := by
        have := and_bit a i hi
        rw [← hni] at this
        rcases this with g | g
        · rw [g]
          simp
          exact fun h => hn0 h.symm
        · rw [g]
          simp
          exact hn0
      simp only [h4, and_self, decide_true, if_true, h3, h6]
      refine ⟨if r = 0 then (bits .and .i64 a n == n) else false, ?_, by split <;> rfl⟩
      have h7 : (if r = 0 then some (bits .and .i64 a n == n) else some false) = some (if r = 0 then (bits .and .i64 a n == n) else false) := by split <;> rfl
      rw [h7]
      split
      · rfl
      · split
        · rfl
        · split
          · rfl
          · split
            · rfl
            · split
              · rfl
              · split
                · rfl
                · split
                  · rfl
                  · split
                    · rfl
                    · split
                      · rfl
                      · omega
    · refine ⟨false, ?_, ?_⟩
      · rw [if_neg (by omega), if_neg (by omega), if_neg (by omega), if_neg (by omega), if_neg (by omega), if_neg (by omega), if_neg (by omega), if_neg (by omega), if_neg (by omega)]
      · split
        · split
          · split
            · rename_i g1 g2 g3
              exfalso
              simp only [decide_eq_true_eq] at g2
              obtain ⟨m, rfl⟩ := Int.eq_ofNat_of_zero_le (show 0 ≤ n by omega)
              rw [w64 (by omega)] at g3
              have := one_bit ⟨m, by omega⟩ g3
              simp at this
              omega
            · rfl
          · rfl
        · rfl
theorem shown_10 (t u v w x y z b : Int) : ∃ q : Int × List Int, spec_ShownByte.f 10 t u v w x y z b = some q ∧ impl_ShownByte.f 10 t u v w x y z b = some q := by
  obtain ⟨r, hr⟩ := way_fault t u v w x y z
  obtain ⟨h1, h2⟩ := hr 10 (by omega)
  obtain ⟨s, h3, h4, hl⟩ : ∃ s : List Int, spec_l10Shown.f t u v w x y z b = some s ∧ impl_Way_shown.f t u v w x y z b = some s ∧ s.length ≤ 2 := by
    unfold spec_l10Shown.f impl_Way_shown.f spec_l10Has.f impl_Way_has.f spec_l10Hidden.f
    simp only [Option.bind_some]
    have hbit := and_bit t 4 (by omega)
    rw [show ((2 : Int) ^ 4) = 16 from by decide] at hbit
    rcases hbit with e | e
    · rw [e]
      exact ⟨[b], by simp, by simp, by simp⟩
    · rw [e]
      by_cases g1 : b < 32
      · by_cases g2 : b = 9
        · subst g2
          exact ⟨[9], by simp, by simp, by simp⟩
        · by_cases g3 : b = 10
          · subst g3
            exact ⟨[10], by simp, by simp, by simp⟩
          · exact ⟨[94, Go.bits .xor .u8 b 64], by simp [g1, g2, g3], by simp [g1, g2, g3], by simp⟩
      · by_cases g2 : b = 127
        · exact ⟨[94, Go.bits .xor .u8 b 64], by simp [g2], by simp [g2], by simp⟩
        · exact ⟨[b], by simp [g1, g2], by simp [g1, g2], by simp⟩
  obtain ⟨q, h5, h6, hq⟩ : ∃ q : Int × List Int, spec_ShownByte.f 10 t u v w x y z b = some q ∧ impl_ShownByte.f 10 t u v w x y z b = some q ∧ q.2.length ≤ 2 := by
    unfold spec_ShownByte.f impl_ShownByte.f
    rw [h1, h2, h3, h4]
    simp only [Option.bind_some]
    split
    · exact ⟨_, rfl, rfl, hl⟩
    · exact ⟨_, rfl, rfl, by simp⟩
  exact ⟨q, h5, h6⟩
/-- The words, joined again. -/
def joinL : List (List UInt8) → List UInt8
  | [] => []
  | h :: t => h ++ (t.map (fun x => (32 : UInt8) :: x)).flatten
theorem joinL_cutL (l : List UInt8) : joinL (cutL l) = l := by
  induction l with
  | nil => rfl
  | cons b l ih =>
    obtain ⟨h, t, e⟩ := cutL_some l
    by_cases hb : b = 32
    · subst hb
      rw [cutL_sp]
      rw [e] at ih ⊢
      simp [joinL] at ih ⊢
      exact ih
    · rw [cutL_ne b l hb, e]
      rw [e] at ih
      simp [joinL, addH] at ih ⊢
      exact ih
theorem tailB_flat (r : List Int) : tailB r = (r.map (fun n => (32 : UInt8) :: Lib.itoa n)).flatten := by
  induction r with
  | nil => rfl
  | cons n r ih =>
    rw [tailB_cons, ih]
    simp
theorem itoa_dd (n : Nat) : Lib.itoa (n : Int) = Lib.decDigits n := Lib.itoa_nonneg n
theorem itoa_no32 (n : Nat) : ∀ b ∈ Lib.itoa (n : Int), b ≠ 32 := by
  intro b hb
  rw [itoa_dd] at hb
  have h := (dd_dig n n (Nat.le_refl _)).1 b hb
  intro he
  subst he
  unfold dig at h
  exact absurd h (by decide)
theorem cut_text : ∀ (r : List Int) (n : Int), 0 ≤ n → (∀ x ∈ r, 0 ≤ x) → cutL (Lib.itoa n ++ tailB r) = Lib.itoa n :: r.map Lib.itoa
  | [], n, hn, _ => by
    obtain ⟨m, rfl⟩ := Int.eq_ofNat_of_zero_le hn
    have := cutL_run (Lib.itoa (m : Int)) [] (itoa_no32 m)
    rw [List.append_nil] at this
    show cutL (Lib.itoa (m : Int) ++ []) = _
    rw [List.append_nil, this]
    simp [cutL, addH]
  | x :: r, n, hn, hr => by
    obtain ⟨m, rfl⟩ := Int.eq_ofNat_of_zero_le hn
    show cutL (Lib.itoa (m : Int) ++ tailB (x :: r)) = _
    rw [tailB_cons, cutL_run _ _ (itoa_no32 m), cutL_sp, cut_text r x (hr x (by simp)) (fun y hy => hr y (by simp [hy]))]
    simp [addH]
theorem val_app (l : List UInt8) (c : UInt8) : ∀ a, val (l ++ [c]) a = val l a * 10 + (c.toNat - 48) := by
  induction l with
  | nil => intro a; rfl
  | cons b l ih => intro a; exact ih _
theorem val_dd : ∀ (m n : Nat), n ≤ m → val (Lib.decDigits n) 0 = n
  | m, n, hm => by
    have dg : ∀ d, d ≤ 9 → (UInt8.ofNat (48 + d)).toNat = 48 + d := fun d hd => by
      rw [UInt8.toNat_ofNat_of_lt' (show 48 + d < 256 by omega)]
    by_cases h : n < 10
    · rw [Lib.decDigits_one h]
      show 0 * 10 + ((UInt8.ofNat (48 + n)).toNat - 48) = n
      rw [dg n (by omega)]
      omega
    · cases m with
      | zero => omega
      | succ m =>
        have e := dd_step (n / 10) (n % 10) (by omega) (by omega)
        rw [show n / 10 * 10 + n % 10 = n by omega] at e
        rw [e, val_app, val_dd m (n / 10) (by omega), dg (n % 10) (by omega)]
        omega
theorem dd_len {n : Nat} (h : n ≤ 999) : (Lib.decDigits n).length ≤ 3 := by
  by_cases h1 : n < 10
  · rw [Lib.decDigits_one h1]
    simp
  · have e := dd_step (n / 10) (n % 10) (by omega) (by omega)
    rw [show n / 10 * 10 + n % 10 = n by omega] at e
    rw [e, List.length_append]
    by_cases h2 : n / 10 < 10
    · rw [Lib.decDigits_one h2]
      simp
    · have e2 := dd_step (n / 10 / 10) (n / 10 % 10) (by omega) (by omega)
      rw [show n / 10 / 10 * 10 + n / 10 % 10 = n / 10 by omega] at e2
      rw [e2, List.length_append, Lib.decDigits_one (by omega)]
      simp
/-- A number's digits are read as the number. -/
theorem num_itoa (n : Nat) (h : n ≤ 999) : numS (Lib.itoa (n : Int)) = (n : Int) := by
  rw [itoa_dd]
  obtain ⟨d1, c, r, d2, d3, d4⟩ := dd_dig n n (Nat.le_refl _)
  have hl := dd_len h
  unfold numS
  rw [if_neg, if_pos d1, val_dd n n (Nat.le_refl _)]
  rintro (q | q | ⟨q, q2⟩)
  · rw [d2] at q
    simp at q
  · omega
  · rw [d2] at q q2
    simp at q2
    by_cases hn : n < 10
    · rw [d4 hn] at q
      simp at q
    · exact d3 (by omega) q2
/-- A good word is its number's digits. -/
theorem good_itoa (s : ByteArray) (h : (numF s).2 = true) : Lib.itoa (numS s.data.toList) = s.data.toList := by
  have hk := num_both s
  rcases hk with ⟨_, h2, h3⟩ | ⟨h2, _⟩
  · unfold numF at h h2
    rcases hp : Lib.parseIntB 64 s.data.toList with v | _ | _
    · rw [hp] at h h2
      simp only [] at h h2
      subst h2
      rw [if_pos h3] at h
      by_cases h4 : s.size ≤ 4
      · rw [if_pos h4, decide_eq_true_eq] at h
        simpa [ByteArray.toList_eq] using h
      · rw [if_neg h4] at h
        cases h
    · rw [hp] at h
      cases h
    · rw [hp] at h
      cases h
  · rw [h] at h2
    cases h2
/-- What the two tell of a text, word by word. -/
theorem parse_words (s : ByteArray) (hs : s.size ≤ 1048576) (k : Nat) (hk : s.size + 100 ≤ k) : ∃ ws, ws.map (fun x => x.data.toList) = cutL s.data.toList ∧ ∃ y, spec_ParseWay.f k s = some y ∧ impl_ParseWay.f k s = some y ∧
    (ws.length = 7 → (∀ w ∈ ws, (numF w).2 = true) → spec_l10Fault.f 10 (rd (nums ws) 0) (rd (nums ws) 1) (rd (nums ws) 2) (rd (nums ws) 3) (rd (nums ws) 4) (rd (nums ws) 5) (rd (nums ws) 6) = some 0 → y = (0, rd (nums ws) 0, rd (nums ws) 1, rd (nums ws) 2, rd (nums ws) 3, rd (nums ws) 4, rd (nums ws) 5, rd (nums ws) 6)) ∧
    (y.1 = 0 → ws.length = 7 ∧ (∀ w ∈ ws, (numF w).2 = true) ∧ spec_l10Fault.f 10 (rd (nums ws) 0) (rd (nums ws) 1) (rd (nums ws) 2) (rd (nums ws) 3) (rd (nums ws) 4) (rd (nums ws) 5) (rd (nums ws) 6) = some 0 ∧ y = (0, rd (nums ws) 0, rd (nums ws) 1, rd (nums ws) 2, rd (nums ws) 3, rd (nums ws) 4, rd (nums ws) 5, rd (nums ws) 6)) := by
  obtain ⟨ws, h1, h2, h3⟩ := words_same s hs k (by omega)
  have hz : ∀ w ∈ ws, w.size ≤ 281474976710656 := by
    have h4 : ws = Lib.splitB ⟨#[32]⟩ 0 (Lib.countB s ⟨#[32]⟩) s := by
      unfold strings_Split.f splitF at h2
      rw [if_pos (by omega), if_pos (by decide)] at h2
      exact (Option.some.inj h2).symm
    have h5 := split_words _ s (Nat.le_refl _)
    rw [← h4] at h5
    intro w hw
    have h6 : w.data.toList ∈ cutL s.data.toList := by
      rw [← h5]
      exact List.mem_map.2 ⟨w, hw, rfl⟩
    have h7 : ∀ (l : List UInt8), ∀ p ∈ cutL l, p.length ≤ l.length := by
      intro l
      induction l with
      | nil =>
        intro p hp
        simp [cutL] at hp
        simp [hp]
      | cons b l ih =>
        intro p hp
        by_cases hb : b = 32
        · subst hb
          rw [cutL_sp] at hp
          rcases List.mem_cons.1 hp with rfl | hp
          · simp
          · have := ih p hp
            simp
            omega
        · rw [cutL_ne b l hb] at hp
          obtain ⟨x, t, e⟩ := cutL_some l
          rw [e] at hp ih
          simp only [addH] at hp
          rcases List.mem_cons.1 hp with rfl | hp
          · have := ih x (by simp)
            simp
            omega
          · have := ih p (by simp [hp])
            simp
            omega
    have := h7 _ _ h6
    rw [← bz, ← bz] at this
    omega
  have hws : ws.map (fun x => x.data.toList) = cutL s.data.toList := by
    have h4 : ws = Lib.splitB ⟨#[32]⟩ 0 (Lib.countB s ⟨#[32]⟩) s := by
      unfold strings_Split.f splitF at h2
      rw [if_pos (by omega), if_pos (by decide)] at h2
      exact (Option.some.inj h2).symm
    have h5 := split_words _ s (Nat.le_refl _)
    rw [← h4] at h5
    exact h5
  refine ⟨ws, hws, ?_⟩
  unfold spec_ParseWay.f impl_ParseWay.f
  rw [h1, h2]
  simp only [Option.bind_some]
  have bad_all : (∃ w ∈ ws, (numF w).2 = false) → impl_ParseWay.l0 k [] ws (ws.length : Int) 0 = some (5, 0, 0, 0, 0, 0, 0, 0) := fun hb =>
    impl_bad ws hz (by omega) ws.length k 0 [] (by omega) (Nat.zero_le _) (by omega) (by simp) (by simpa using hb)
  have good_all : (∀ w ∈ ws, (numF w).2 = true) → impl_ParseWay.l0 k [] ws (ws.length : Int) 0 = impl_ParseWay.l0 (k - ws.length - 12 + 12) (nums ws) ws (ws.length : Int) (ws.length : Int) := fun hg => by
    have := impl_good ws hz (by omega) (fun w hw => by
      refine ⟨hg w hw, ?_⟩
      rcases num_both w with h | h
      · exact h.2.1
      · rw [hg w hw] at h
        cases h.1) ws.length (k - ws.length - 12) 0 (by omega) (Nat.zero_le _)
    rw [show k - ws.length - 12 + 12 + ws.length = k by omega] at this
    simpa using this
  by_cases h7 : ws.length = 7
  · have hl : (nums ws).length = 7 := by simp [nums, h7]
    obtain ⟨r, hr⟩ := way_fault (rd (nums ws) 0) (rd (nums ws) 1) (rd (nums ws) 2) (rd (nums ws) 3) (rd (nums ws) 4) (rd (nums ws) 5) (rd (nums ws) 6)
    have e1 : spec_l10Parse.f k ws = some (rd (nums ws) 0, rd (nums ws) 1, rd (nums ws) 2, rd (nums ws) 3, rd (nums ws) 4, rd (nums ws) 5, rd (nums ws) 6, (r == 0)) := by
      unfold spec_l10Parse.f
      rw [if_pos (by omega)]
      have := spec_loop ws h7 7 (k - 19) 0 (by omega) (by omega)
      rw [show k - 19 + 12 + 7 = k by omega] at this
      rw [show spec_l10Parse.l0 k ws [] 0 = spec_l10Parse.l0 (k - 19 + 12) ws (nums ws) 7 by simpa using this, spec_end _ hl, (hr _ (by omega)).1]
      rfl
    rw [e1]
    simp only [Option.bind_some]
    by_cases hg : ∀ w ∈ ws, (numF w).2 = true
    · rw [good_all hg]
      have e2 : impl_ParseWay.l0 (k - ws.length - 12 + 12) (nums ws) ws (ws.length : Int) (ws.length : Int) = if r = 0 then some (0, rd (nums ws) 0, rd (nums ws) 1, rd (nums ws) 2, rd (nums ws) 3, rd (nums ws) 4, rd (nums ws) 5, rd (nums ws) 6) else some (5, 0, 0, 0, 0, 0, 0, 0) := by
        rw [show k - ws.length - 12 + 12 = (k - ws.length - 12 + 11) + 1 by omega]
        simp only [impl_ParseWay.l0, impl_Way_numbers.f, Option.bind_some]
        rw [if_neg (by omega), if_pos (by simp [hl]), if_pos (by omega), if_pos (by omega), if_pos (by omega), if_pos (by omega), if_pos (by omega), if_pos (by omega), if_pos (by omega), (hr _ (by omega)).2, Option.bind_some]
      rw [e2]
      by_cases hr0 : r = 0
      · rw [if_pos hr0, if_pos (by simp [hr0])]
        refine ⟨_, rfl, rfl, fun _ _ _ => rfl, fun _ => ⟨h7, hg, ?_, rfl⟩⟩
        rw [(hr 10 (by omega)).1, hr0]
      · rw [if_neg hr0, if_neg (by simp [hr0])]
        refine ⟨_, rfl, rfl, fun _ _ h => ?_, fun h => by cases h⟩
        rw [(hr 10 (by omega)).1] at h
        exact absurd (Option.some.inj h) hr0
    · have hb : ∃ w ∈ ws, (numF w).2 = false := by
        apply Classical.byContradiction
        intro hn
        apply hg
        intro w hw
        cases hq : (numF w).2 with
        | true => rfl
        | false => exact absurd ⟨w, hw, hq⟩ hn
      rw [bad_all hb]
      have hr0 : r ≠ 0 := by
        intro h0
        subst h0
        obtain ⟨w, hw, hq⟩ := hb
        have h8 := rd_ok (r := 0) hl 0 (hr 10 (by omega)).1 (numS w.data.toList) (List.mem_map.2 ⟨w, hw, rfl⟩)
        rcases num_both w with h | h
        · rw [hq] at h
          cases h.1
        · omega
      rw [if_neg (by simp [hr0])]
      exact ⟨_, rfl, rfl, fun _ h _ => absurd h hg, fun h => by cases h⟩
  · have e1 : spec_l10Parse.f k ws = some (0, 0, 0, 0, 0, 0, 0, false) := by
      unfold spec_l10Parse.f
      rw [if_neg (by omega)]
    rw [e1]
    simp only [Option.bind_some, Bool.false_eq_true, if_false]
    by_cases hg : ∀ w ∈ ws, (numF w).2 = true
    · rw [good_all hg]
      have e2 : impl_ParseWay.l0 (k - ws.length - 12 + 12) (nums ws) ws (ws.length : Int) (ws.length : Int) = some (5, 0, 0, 0, 0, 0, 0, 0) := by
        rw [show k - ws.length - 12 + 12 = (k - ws.length - 12 + 11) + 1 by omega]
        simp only [impl_ParseWay.l0, impl_Way_numbers.f, Option.bind_some]
        rw [if_neg (by omega), if_neg (by simp [nums]; omega)]
      rw [e2]
      exact ⟨_, rfl, rfl, fun h => absurd h h7, fun h => by cases h⟩
    · have hb : ∃ w ∈ ws, (numF w).2 = false := by
        apply Classical.byContradiction
        intro hn
        apply hg
        intro w hw
        cases hq : (numF w).2 with
        | true => rfl
        | false => exact absurd ⟨w, hw, hq⟩ hn
      rw [bad_all hb]
      exact ⟨_, rfl, rfl, fun h => absurd h h7, fun h => by cases h⟩
theorem seven {α : Type} (l : List α) (h : l.length = 7) : ∃ a b c d e f g, l = [a, b, c, d, e, f, g] := by
  match l, h with
  | [a, b, c, d, e, f, g], _ => exact ⟨a, b, c, d, e, f, g, rfl⟩
/-- A text that is read is the text of the way that it is read as. -/
theorem parse_text (s : ByteArray) (hs : s.size ≤ 1048576) (k : Nat) (hk : s.size + 100 ≤ k) : ∃ y, spec_ParseWay.f k s = some y ∧ impl_ParseWay.f k s = some y ∧
    (y.1 = 0 → ∃ a b c d e f g, y = (0, a, b, c, d, e, f, g) ∧ spec_l10Fault.f 10 a b c d e f g = some 0 ∧ s.data.toList = Lib.itoa a ++ tailB [b, c, d, e, f, g]) := by
  obtain ⟨ws, h1, y, h2, h3, _, h4⟩ := parse_words s hs k hk
  refine ⟨y, h2, h3, fun h0 => ?_⟩
  obtain ⟨h7, hg, hf, hy⟩ := h4 h0
  obtain ⟨w0, w1, w2, w3, w4, w5, w6, rfl⟩ := seven ws h7
  refine ⟨_, _, _, _, _, _, _, hy, hf, ?_⟩
  have g0 := good_itoa w0 (hg w0 (by simp))
  have g1 := good_itoa w1 (hg w1 (by simp))
  have g2 := good_itoa w2 (hg w2 (by simp))
  have g3 := good_itoa w3 (hg w3 (by simp))
  have g4 := good_itoa w4 (hg w4 (by simp))
  have g5 := good_itoa w5 (hg w5 (by simp))
  have g6 := good_itoa w6 (hg w6 (by simp))
  have hj := joinL_cutL s.data.toList
  rw [← h1] at hj
  rw [← hj, tailB_flat]
  show joinL [w0.data.toList, w1.data.toList, w2.data.toList, w3.data.toList, w4.data.toList, w5.data.toList, w6.data.toList] = Lib.itoa (numS w0.data.toList) ++ (List.map (fun n => (32 : UInt8) :: Lib.itoa n) [numS w1.data.toList, numS w2.data.toList, numS w3.data.toList, numS w4.data.toList, numS w5.data.toList, numS w6.data.toList]).flatten
  simp only [List.map_cons, List.map_nil, g0, g1, g2, g3, g4, g5, g6, joinL]
/-- A way's text is read as the way. -/
theorem text_parse (s : ByteArray) (hs : s.size ≤ 1048576) (k : Nat) (hk : s.size + 100 ≤ k) (a b c d e f g : Int) (hf : spec_l10Fault.f 10 a b c d e f g = some 0) (ht : s.data.toList = Lib.itoa a ++ tailB [b, c, d, e, f, g]) : impl_ParseWay.f k s = some (0, a, b, c, d, e, f, g) := by
  obtain ⟨ws, h1, y, _, h3, h4, _⟩ := parse_words s hs k hk
  have hb := way_ok (xs := [a, b, c, d, e, f, g]) rfl 7 10 0 rfl (by omega) (by omega) hf
  have hall : ∀ n ∈ [a, b, c, d, e, f, g], 0 ≤ n ∧ n ≤ 511 := fun n hn => by
    obtain ⟨j, hj, rfl⟩ := List.mem_iff_getElem.1 hn
    exact hb j hj (Nat.zero_le _)
  have nn : ∀ n ∈ [a, b, c, d, e, f, g], numS (Lib.itoa n) = n := fun n hn => by
    obtain ⟨h0, h5⟩ := hall n hn
    obtain ⟨m, rfl⟩ := Int.eq_ofNat_of_zero_le h0
    exact num_itoa m (by omega)
  have hc := cut_text [b, c, d, e, f, g] a (hall a (by simp)).1 (fun x hx => (hall x (by simp at hx ⊢; omega)).1)
  rw [← ht, ← h1] at hc
  have h7 : ws.length = 7 := by
    have := congrArg List.length hc
    simpa using this
  obtain ⟨w0, w1, w2, w3, w4, w5, w6, rfl⟩ := seven ws h7
  simp only [List.map_cons, List.map_nil, List.cons.injEq, and_true] at hc
  obtain ⟨q0, q1, q2, q3, q4, q5, q6⟩ := hc
  have hn : nums [w0, w1, w2, w3, w4, w5, w6] = [a, b, c, d, e, f, g] := by
    unfold nums
    simp only [List.map_cons, List.map_nil, q0, q1, q2, q3, q4, q5, q6]
    rw [nn a (by simp), nn b (by simp), nn c (by simp), nn d (by simp), nn e (by simp), nn f (by simp), nn g (by simp)]
  have hgood : ∀ w ∈ [w0, w1, w2, w3, w4, w5, w6], (numF w).2 = true := by
    intro w hw
    have : ∃ n, n ∈ [a, b, c, d, e, f, g] ∧ w.data.toList = Lib.itoa n := by
      simp at hw
      rcases hw with rfl | rfl | rfl | rfl | rfl | rfl | rfl
      · exact ⟨a, by simp, q0⟩
      · exact ⟨b, by simp, q1⟩
      · exact ⟨c, by simp, q2⟩
      · exact ⟨d, by simp, q3⟩
      · exact ⟨e, by simp, q4⟩
      · exact ⟨f, by simp, q5⟩
      · exact ⟨g, by simp, q6⟩
    obtain ⟨n, hn1, hn2⟩ := this
    rcases num_both w with h | h
    · exact h.1
    · have := h.2
      rw [hn2, nn n hn1] at this
      have := (hall n hn1).1
      omega
  have hy := h4 h7 hgood (by rw [hn]; exact hf)
  rw [hn] at hy
  rw [h3, hy]
  rfl
/-- A right way's text. -/
theorem way_text (a b c d e f g : Int) (k : Nat) (hk : 40 ≤ k) (hf : spec_l10Fault.f 10 a b c d e f g = some 0) : impl_WayText.f k a b c d e f g = some (0, ⟨(Lib.itoa a ++ tailB [b, c, d, e, f, g]).toArray⟩) := by
  obtain ⟨r, hr⟩ := way_fault a b c d e f g
  have hr0 : r = 0 := by
    have := (hr 10 (by omega)).1
    rw [hf] at this
    exact (Option.some.inj this).symm
  subst hr0
  have hb := way_ok (xs := [a, b, c, d, e, f, g]) rfl 7 10 0 rfl (by omega) (by omega) hf
  have hall : ∀ n ∈ [a, b, c, d, e, f, g], 0 ≤ n ∧ n ≤ 511 := fun n hn => by
    obtain ⟨j, hj, rfl⟩ := List.mem_iff_getElem.1 hn
    exact hb j hj (Nat.zero_le _)
  have b0 := hall a (by simp)
  have e2 := impl_text_loop (xs := [a, b, c, d, e, f, g]) (by simp) hall 7 k 0 rfl (by simp) (by omega)
  have e3 := join_f (w := dgs a) (r := [b, c, d, e, f, g]) (by have := dgs_size b0.1 (by omega); omega) (by simp) (fun n hn => by have := hall n (by simp at hn ⊢; omega); omega)
  unfold impl_WayText.f
  rw [(hr k (by omega)).2]
  simp only [Option.bind_some]
  rw [if_pos trivial]
  unfold impl_Way_text.f impl_Way_numbers.f
  simp only [Option.bind_some]
  have e2' : impl_Way_text.l0 k [] [a, b, c, d, e, f, g] (([a, b, c, d, e, f, g] : List Int).length : Int) 0 = some ⟨((dgs a).data.toList ++ tailB [b, c, d, e, f, g]).toArray⟩ := by
    have := e2
    simp only [List.map_cons, List.map_nil] at this e3
    rw [e3] at this
    exact this
  rw [e2']
  rfl
theorem spec_text (a b c d e f g : Int) (k : Nat) (hk : 40 ≤ k) (hall : ∀ n ∈ [a, b, c, d, e, f, g], 0 ≤ n ∧ n ≤ 511) : spec_l10Text.f k a b c d e f g = some ⟨(Lib.itoa a ++ tailB [b, c, d, e, f, g]).toArray⟩ := by
  have b0 := hall a (by simp)
  have e1 := spec_text_loop (xs := [a, b, c, d, e, f, g]) (by simp) hall 6 k 1 (dgs a) rfl (by simp) (by omega) (by have := dgs_size b0.1 (by omega); omega) (by omega)
  unfold spec_l10Text.f spec_l10List.f
  simp only [Option.bind_some]
  rw [if_pos (by simp), show rd [a, b, c, d, e, f, g] 0 = a from rfl, digits_eq (by omega) b0.1 (by omega)]
  simp only [Option.bind_some]
  have e1' : spec_l10Text.l0 k [a, b, c, d, e, f, g] (dgs a) 1 = some ⟨((dgs a).data.toList ++ tailB [b, c, d, e, f, g]).toArray⟩ := e1
  rw [e1']
  rfl
theorem pick_mem {xs : List Int} (hb : Bs xs) {s : Int} (h0 : 0 ≤ s) (h1 : s ≤ 100000) (l : List Int) (hl : 1 ≤ l.length) : ∃ v : Int, spec_l1Pick.f xs s l = some (v, s + 1) ∧ v ∈ l := by
  obtain ⟨i, hi, hr⟩ := next_some hb h0 h1 (l.length : Int)
  obtain ⟨r0, r1⟩ := hr (by omega)
  unfold spec_l1Pick.f
  rw [hi]
  simp only [Option.bind_some]
  rw [if_pos r0, if_pos r1]
  refine ⟨_, rfl, ?_⟩
  obtain ⟨j, rfl⟩ := Int.eq_ofNat_of_zero_le r0
  rw [rd_nat (show j < l.length by omega)]
  exact List.getElem_mem _
theorem usual_fault : ∀ n : Nat, n < 512 → spec_l10Fault.f 10 (n : Int) 127 21 23 4 3 22 = some 0 := by decide +kernel
theorem usual_has : ∀ n : Nat, n < 512 → impl_HasFlag.f 30 (n : Int) 127 21 23 4 3 22 2 = some (decide (Int.tmod (n : Int) 4 ≥ 2)) := by decide +kernel
theorem draw_way {xs : List Int} (hb : Bs xs) {s : Int} (h0 : 0 ≤ s) (h1 : s ≤ 1000) : ∃ v : Int, spec_l10Draw.f xs s = some (v, 127, 21, 23, 4, 3, 22, s + 1 + 1) ∧ 0 ≤ v ∧ v ≤ 511 := by
  unfold spec_l10Draw.f
  obtain ⟨u, hu, hr⟩ := next_some hb h0 (by omega) 512
  obtain ⟨v, hv, hm⟩ := pick_mem hb (s := s + 1) (by omega) (by omega) [511, 511, 507, u, 2, 510] (by simp)
  rw [hu]
  simp only [Option.bind_some]
  rw [hv]
  simp only [Option.bind_some, spec_l10Usual.f]
  have := hr (by omega)
  refine ⟨v, rfl, ?_⟩
  simp at hm
  omega
theorem bent_some {xs : List Int} (hb : Bs xs) {s : Int} (h0 : 0 ≤ s) (h1 : s ≤ 1000) : ∃ (a b c d e f g t : Int), spec_l10Bent.f xs s = some (a, b, c, d, e, f, g, t) ∧ 0 ≤ t ∧ t ≤ 2000 := by
  unfold spec_l10Bent.f
  obtain ⟨v, hv, _⟩ := draw_way hb h0 h1
  rw [hv]
  simp only [Option.bind_some]
  obtain ⟨u, hu, _⟩ := next_some hb (s := s + 1 + 1) (by omega) (by omega) 12
  rw [hu]
  simp only [Option.bind_some]
  by_cases e0 : u = 0
  · rw [if_pos e0]
    obtain ⟨p, hp, _⟩ := pick_mem hb (s := s + 1 + 1 + 1) (by omega) (by omega) [(-1), 512] (by simp)
    rw [hp]
    exact ⟨_, _, _, _, _, _, _, _, rfl, by omega, by omega⟩
  · rw [if_neg e0]
    by_cases e1 : u = 1
    · rw [if_pos e1]
      obtain ⟨p, hp, _⟩ := pick_mem hb (s := s + 1 + 1 + 1) (by omega) (by omega) [0, 8, 256, (-1)] (by simp)
      rw [hp]
      exact ⟨_, _, _, _, _, _, _, _, rfl, by omega, by omega⟩
    · rw [if_neg e1]
      exact ⟨_, _, _, _, _, _, _, _, rfl, by omega, by omega⟩
theorem drawHas_some {xs : List Int} (hb : Bs xs) : ∃ (a b c d e f g n : Int), spec_DrawHasFlag.f xs = some (a, b, c, d, e, f, g, n) := by
  unfold spec_DrawHasFlag.f spec_l1Source.f
  simp only [Option.bind_some]
  obtain ⟨a, b, c, d, e, f, g, t, h, h0, h1⟩ := bent_some hb (s := 0) (by omega) (by omega)
  rw [h]
  simp only [Option.bind_some]
  obtain ⟨p, hp, _⟩ := pick_mem hb (s := t) (by omega) (by omega) [1, 2, 16, 256, 3, 512, 0] (by simp)
  rw [hp]
  exact ⟨_, _, _, _, _, _, _, _, rfl⟩
theorem drawShown_some {xs : List Int} (hb : Bs xs) : ∃ (a b c d e f g n : Int), spec_DrawShownByte.f xs = some (a, b, c, d, e, f, g, n) := by
  unfold spec_DrawShownByte.f spec_l1Source.f
  simp only [Option.bind_some]
  obtain ⟨a, b, c, d, e, f, g, t, h, h0, h1⟩ := bent_some hb (s := 0) (by omega) (by omega)
  rw [h]
  simp only [Option.bind_some]
  obtain ⟨p, hp, _⟩ := pick_mem hb (s := t) (by omega) (by omega) [1, 9, 10, 31, 32, 126, 127, 200] (by simp)
  rw [hp]
  exact ⟨_, _, _, _, _, _, _, _, rfl⟩
theorem drawUsual_some {xs : List Int} (hb : Bs xs) : ∃ v : Int, spec_DrawUsualWay.f xs = some v := by
  unfold spec_DrawUsualWay.f spec_l1Source.f
  simp only [Option.bind_some]
  obtain ⟨u, hu, _⟩ := next_some hb (s := 0) (by omega) (by omega) 512
  rw [hu]
  simp only [Option.bind_some]
  obtain ⟨p, hp, _⟩ := pick_mem hb (s := 0 + 1) (by omega) (by omega) [u, 511, 512, (-1)] (by simp)
  rw [hp]
  exact ⟨_, rfl⟩
theorem drawParse_some {xs : List Int} (hb : Bs xs) {k : Nat} (hk : 40 ≤ k) : ∃ t : ByteArray, spec_DrawParseWay.f k xs = some t ∧ t.size ≤ 1000 := by
  unfold spec_DrawParseWay.f spec_l1Source.f
  simp only [Option.bind_some]
  obtain ⟨v, hv, v0, v1⟩ := draw_way hb (s := 0) (by omega) (by omega)
  rw [hv]
  simp only [Option.bind_some]
  rw [spec_text v 127 21 23 4 3 22 k hk (fun n hn => by simp at hn; omega)]
  simp only [Option.bind_some]
  generalize hT : (⟨(Lib.itoa v ++ tailB [127, 21, 23, 4, 3, 22]).toArray⟩ : ByteArray) = T
  have hl : (bytesOf T).length = T.size := bytesOf_length T
  have hz : T.size = (Lib.itoa v ++ tailB [127, 21, 23, 4, 3, 22]).length := by rw [← hT, bsize]
  have z1 : T.size ≤ 500 := by
    have q1 := Lib.itoa_length_le v (by omega) (by omega)
    have q2 := tailB_len [127, 21, 23, 4, 3, 22] (fun n hn => by simp at hn; omega)
    rw [hz, List.length_append]
    simp at q2
    omega
  have z0 : 1 ≤ T.size := by
    rw [hz, List.length_append, tailB_cons]
    simp
    omega
  rw [if_pos (show T.size ≤ 9223372036854775807 by omega)]
  simp only [Option.bind_some]
  obtain ⟨t, ht, _⟩ := next_some hb (s := 0 + 1 + 1) (by omega) (by omega) 5
  rw [ht]
  simp only [Option.bind_some]
  by_cases e0 : t = 0
  · rw [if_pos e0]
    obtain ⟨i, hi, hr⟩ := next_some hb (s := 0 + 1 + 1 + 1) (by omega) (by omega) ((bytesOf T).length : Int)
    obtain ⟨r0, r1⟩ := hr (by omega)
    rw [hi]
    simp only [Option.bind_some]
    obtain ⟨p, hp, _⟩ := pick_mem hb (s := 0 + 1 + 1 + 1 + 1) (by omega) (by omega) [32, 48, 120, 57] (by simp)
    rw [hp]
    simp only [Option.bind_some]
    rw [if_pos r0, if_pos r1]
    refine ⟨_, rfl, ?_⟩
    rw [strOfNums_size, List.length_set]
    omega
  · rw [if_neg e0]
    by_cases e1 : t = 1
    · rw [if_pos e1]
      obtain ⟨i, hi, hr⟩ := next_some hb (s := 0 + 1 + 1 + 1) (by omega) (by omega) ((bytesOf T).length : Int)
      obtain ⟨r0, r1⟩ := hr (by omega)
      rw [hi]
      simp only [Option.bind_some]
      rw [if_pos r0, if_pos (by omega)]
      refine ⟨_, rfl, ?_⟩
      rw [strOfNums_size, List.length_take]
      omega
    · rw [if_neg e1]
      refine ⟨_, rfl, ?_⟩
      rw [strOfNums_size]
      omega
theorem has_same (a b c d e f g n : Int) {k : Nat} (hk : 30 ≤ k) : ∃ v : Bool, spec_HasFlag.f k a b c d e f g n = some v ∧ impl_HasFlag.f k a b c d e f g n = some v := by
  obtain ⟨v, h1, h2⟩ := has_30 a b c d e f g n
  exact ⟨v, at_rounds (g := fun k => spec_HasFlag.f k a b c d e f g n) (spec_HasFlag.mono a b c d e f g n) hk h1, at_rounds (g := fun k => impl_HasFlag.f k a b c d e f g n) (impl_HasFlag.mono a b c d e f g n) hk h2⟩
theorem shown_same (a b c d e f g n : Int) {k : Nat} (hk : 10 ≤ k) : ∃ q : Int × List Int, spec_ShownByte.f k a b c d e f g n = some q ∧ impl_ShownByte.f k a b c d e f g n = some q := by
  obtain ⟨v, h1, h2⟩ := shown_10 a b c d e f g n
  exact ⟨v, at_rounds (g := fun k => spec_ShownByte.f k a b c d e f g n) (spec_ShownByte.mono a b c d e f g n) hk h1, at_rounds (g := fun k => impl_ShownByte.f k a b c d e f g n) (impl_ShownByte.mono a b c d e f g n) hk h2⟩
/-- What the law asks of usual ways. -/
theorem usual_tail (n : Int) : (0 ≤ n ∧ n ≤ 511 ∧ impl_UsualWay.f n = some (0, n, 127, 21, 23, 4, 3, 22) ∧ (∃ t : ByteArray, impl_WayText.f 5000 n 127 21 23 4 3 22 = some (0, t) ∧ impl_ParseWay.f 5000 t = some (0, n, 127, 21, 23, 4, 3, 22)) ∧ impl_WayFault.f 5000 n 127 21 23 4 3 22 = some 0 ∧ impl_HasFlag.f 5000 n 127 21 23 4 3 22 2 = some (decide (Int.tmod n 4 ≥ 2))) ∨
    (impl_UsualWay.f n = some (3, 0, 0, 0, 0, 0, 0, 0) ∧ spec_UsualWay.f n = some (3, 0, 0, 0, 0, 0, 0, 0)) := by
  by_cases h : 0 ≤ n ∧ n ≤ 511
  · left
    refine ⟨h.1, h.2, ?_, ?_, ?_, ?_⟩
    · unfold impl_UsualWay.f impl_usual.f
      rw [impl_in_eq, decide_eq_true h]
      rfl
    · obtain ⟨m, rfl⟩ := Int.eq_ofNat_of_zero_le h.1
      have hf := usual_fault m (by omega)
      have ht := way_text (m : Int) 127 21 23 4 3 22 5000 (by omega) hf
      refine ⟨_, ht, ?_⟩
      have q1 := Lib.itoa_length_le (m : Int) (by omega) (by omega)
      have q2 := tailB_len [127, 21, 23, 4, 3, 22] (fun n hn => by simp at hn; omega)
      have hz : (⟨(Lib.itoa (m : Int) ++ tailB [127, 21, 23, 4, 3, 22]).toArray⟩ : ByteArray).size ≤ 500 := by
        rw [bsize, bmk, List.length_append]
        simp at q2
        omega
      exact text_parse _ (by omega) 5000 (by omega) (m : Int) 127 21 23 4 3 22 hf (bmk _)
    · obtain ⟨m, rfl⟩ := Int.eq_ofNat_of_zero_le h.1
      obtain ⟨r, hr⟩ := way_fault (m : Int) 127 21 23 4 3 22
      have := (hr 10 (by omega)).1
      rw [usual_fault m (by omega)] at this
      rw [(hr 5000 (by omega)).2, ← this]
    · obtain ⟨m, rfl⟩ := Int.eq_ofNat_of_zero_le h.1
      exact at_rounds (g := fun k => impl_HasFlag.f k (m : Int) 127 21 23 4 3 22 2) (impl_HasFlag.mono (m : Int) 127 21 23 4 3 22 2) (show 30 ≤ 5000 by omega) (usual_has m (by omega))
  · right
    unfold impl_UsualWay.f spec_UsualWay.f
    rw [impl_in_eq, spec_l1In_eq, decide_eq_false h]
    exact ⟨rfl, rfl⟩
theorem FnWays (xs : List Int) (_hm : xs.length ≤ maxLen) (_hb : xs.length * 1 ≤ 140737488351232) (hw : ∀ x ∈ xs, (Lit.int .u8 x).wf = true) : ∃ k, laws_FnWays.f k xs = some true := by
  refine ⟨5000, ?_⟩
  unfold laws_FnWays.f laws_lwBig.f
  simp only [Option.bind_some, decide_eq_true_eq]
  by_cases hbig : (xs.length : Int) > 1048576
  · rw [if_pos hbig]
  rw [if_neg hbig]
  have hB : Bs xs := ⟨by omega, fun y hy => wf_u8 (hw y hy)⟩
  obtain ⟨t, ht, htz⟩ := drawParse_some hB (k := 5000) (by omega)
  obtain ⟨y, p1, p2, p3⟩ := parse_text t (by omega) 5000 (by omega)
  obtain ⟨a1, b1, c1, d1, e1, f1, g1, n1, h1⟩ := drawHas_some hB
  obtain ⟨v1, s1, i1⟩ := has_same a1 b1 c1 d1 e1 f1 g1 n1 (k := 5000) (by omega)
  obtain ⟨a2, b2, c2, d2, e2, f2, g2, n2, h2⟩ := drawShown_some hB
  obtain ⟨q, s2, i2⟩ := shown_same a2 b2 c2 d2 e2 f2 g2 n2 (k := 5000) (by omega)
  obtain ⟨n, hn⟩ := drawUsual_some hB
  have tail : ((spec_DrawUsualWay.f xs).bind fun t511 => ((impl_UsualWay.f t511).bind fun bt512 => (if bt512.1 = 0 then ((impl_WayText.f 5000 bt512.2.1 bt512.2.2.1 bt512.2.2.2.1 bt512.2.2.2.2.1 bt512.2.2.2.2.2.1 bt512.2.2.2.2.2.2.1 bt512.2.2.2.2.2.2.2).bind fun bt521 => ((impl_WayFault.f 5000 bt512.2.1 bt512.2.2.1 bt512.2.2.2.1 bt512.2.2.2.2.1 bt512.2.2.2.2.2.1 bt512.2.2.2.2.2.2.1 bt512.2.2.2.2.2.2.2).bind fun t524 => (if t524 = 0 then (if bt512.2.1 = t511 then (if bt521.1 = 0 then ((impl_ParseWay.f 5000 bt521.2).bind fun bt525 => (if (bt525.2.1 == bt512.2.1 && (bt525.2.2.1 == bt512.2.2.1 && (bt525.2.2.2.1 == bt512.2.2.2.1 && (bt525.2.2.2.2.1 == bt512.2.2.2.2.1 && (bt525.2.2.2.2.2.1 == bt512.2.2.2.2.2.1 && (bt525.2.2.2.2.2.2.1 == bt512.2.2.2.2.2.2.1 && (bt525.2.2.2.2.2.2.2 == bt512.2.2.2.2.2.2.2))))))) = true then ((impl_HasFlag.f 5000 bt512.2.1 bt512.2.2.1 bt512.2.2.2.1 bt512.2.2.2.2.1 bt512.2.2.2.2.2.1 bt512.2.2.2.2.2.2.1 bt512.2.2.2.2.2.2.2 2).bind fun t533 => (some (t533 == (decide ((Int.tmod t511 4) ≥ 2))))) else (some false))) else (some false)) else (some false)) else (some false)))) else ((spec_UsualWay.f t511).bind fun bt534 => (some (bt534.1 == bt512.1)))))) = some true := by
    rw [hn]
    simp only [Option.bind_some]
    rcases usual_tail n with ⟨u0, u1, u2, ⟨w, u3, u4⟩, u5, u6⟩ | ⟨u2, u3⟩
    · rw [u2]
      simp only [Option.bind_some, if_true]
      rw [u3, u5]
      simp only [Option.bind_some, if_true]
      rw [u4]
      simp only [Option.bind_some]
      rw [u6]
      simp
    · rw [u2, u3]
      simp
  rw [ht]
  simp only [Option.bind_some]
  rw [p1, p2]
  simp only [Option.bind_some, if_true]
  by_cases hz : y.1 = 0
  · obtain ⟨a, b, c, d, e, f, g, rfl, hf, hT⟩ := p3 hz
    rw [if_pos hz]
    simp only []
    rw [way_text a b c d e f g 5000 (by omega) hf]
    simp only [Option.bind_some]
    rw [if_pos (by rw [ByteArray.toList_eq, ByteArray.toList_eq, bmk, hT]), h1]
    simp only [Option.bind_some]
    rw [i1, s1]
    simp only [Option.bind_some, bne_self_eq_false, Bool.false_eq_true, if_false]
    rw [h2]
    simp only [Option.bind_some]
    rw [i2, s2]
    simp only [Option.bind_some, if_true, laws_lwSame.f, beq_self_eq_true]
    exact tail
  · rw [if_neg hz, h1]
    simp only [Option.bind_some]
    rw [i1, s1]
    simp only [Option.bind_some, bne_self_eq_false, Bool.false_eq_true, if_false]
    rw [h2]
    simp only [Option.bind_some]
    rw [i2, s2]
    simp only [Option.bind_some, if_true, laws_lwSame.f, beq_self_eq_true]
    exact tail

end Go.Proofs.YtpoafgokngpglaaDoor.Pure
