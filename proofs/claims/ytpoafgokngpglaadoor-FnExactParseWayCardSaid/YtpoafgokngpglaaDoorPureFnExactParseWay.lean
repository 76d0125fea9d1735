/- ParseWay: for every text of up to 1<<20 bytes (for longer ones the law says nothing) the program's way is the reference's: the words are the same, a word is a number for both or for neither. No condition. -/
import Derived.Test.YtpoafgokngpglaaDoorPFnExactParseWayx
import Derived.Test.YtpoafgokngpglaaDoorPlain
import Derived.Lib.CutLaws
import Derived.Lib.IndexBytes
import Derived.Lib.ParseIntBCases
namespace Go.Proofs.YtpoafgokngpglaaDoor.Pure
open Go Go.RowKit Go.Proofs.YtpoafgokngpglaaDoor.PFnExactParseWay Go.Proofs.YtpoafgokngpglaaDoorW.PrintWords Go.Proofs.YtpoafgokngpglaaDoorW.PrintLast Go.Proofs.YtpoafgokngpglaaDoorPlain Go.Proofs.YtpoafgokngpglaaDoorPw
set_option linter.unusedVariables false
set_option linter.unusedSimpArgs false

theorem spec_l1In_eq (x a b : Int) : spec_l1In.f x a b = some (decide (a ≤ x ∧ x ≤ b)) := by
  unfold spec_l1In.f
  split <;> (congr 1; simp_all) <;> omega

theorem impl_in_eq (x a b : Int) : impl_in.f x a b = some (decide (a ≤ x ∧ x ≤ b)) := by
  unfold impl_in.f
  split <;> (congr 1; simp_all) <;> omega

theorem way_loop (xs : List Int) (hb : xs.length ≤ 1000) (d : Nat) : ∀ (k i : Nat), xs.length - i = d → i ≤ xs.length → d < k →
    ∃ r : Int, spec_l10Fault.l0 k xs (i : Int) = some r ∧ impl_WayFault.l0 k xs (xs.length : Int) (i : Int) = some r := by
  induction d with
  | zero =>
    intro k i hd hi hk
    obtain ⟨k, rfl⟩ : ∃ m, k = m + 1 := ⟨k - 1, by omega⟩
    refine ⟨0, ?_, ?_⟩
    · simp only [spec_l10Fault.l0]; rw [if_neg (by omega)]
    · simp only [impl_WayFault.l0]; rw [if_neg (by omega)]
  | succ d ih =>
    intro k i hd hi hk
    obtain ⟨k, rfl⟩ : ∃ m, k = m + 1 := ⟨k - 1, by omega⟩
    obtain ⟨r, h1, h2⟩ := ih k (i + 1) (by omega) (by omega) (by omega)
    have hx : i < xs.length := by omega
    have g1 : (i : Int) < (xs.length : Int) := by omega
    have g2 : 0 ≤ (i : Int) := by omega
    simp only [spec_l10Fault.l0, impl_WayFault.l0, spec_l1In_eq, impl_in_eq, Option.bind_some, if_pos g1, if_pos g2]
    rw [rd_nat hx, w64n (by omega), h1, h2]
    by_cases h0 : (i : Int) = 0
    · rw [if_pos h0, if_pos h0]
      by_cases h3 : 0 ≤ xs[i] ∧ xs[i] ≤ 255
      · have h4 : 0 ≤ xs[i] ∧ xs[i] ≤ 511 := by omega
        exact ⟨r, by simp [h4], by simp [h3]⟩
      · by_cases h4 : 0 ≤ xs[i] ∧ xs[i] ≤ 511
        · exact ⟨r, by simp [h4], by simp [h3, h4]⟩
        · exact ⟨3, by simp [h4], by simp [h3, h4]⟩
    · rw [if_neg h0, if_neg h0]
      by_cases h3 : 0 ≤ xs[i] ∧ xs[i] ≤ 255
      · exact ⟨r, by simp [h3], by simp [h3]⟩
      · exact ⟨3, by simp [h3], by simp [h3]⟩
theorem way_fault (a b c d e f g : Int) : ∃ r : Int, ∀ k, 10 ≤ k → spec_l10Fault.f k a b c d e f g = some r ∧ impl_WayFault.f k a b c d e f g = some r := by
  obtain ⟨r, h1, h2⟩ := way_loop [a, b, c, d, e, f, g] (by simp) 7 10 0 rfl (Nat.zero_le _) (by omega)
  refine ⟨r, fun k hk => ⟨?_, ?_⟩⟩
  · exact at_rounds (g := fun k => spec_l10Fault.f k a b c d e f g) (spec_l10Fault.mono a b c d e f g) hk h1
  · exact at_rounds (g := fun k => impl_WayFault.f k a b c d e f g) (impl_WayFault.mono a b c d e f g) hk h2

theorem bx {a b : ByteArray} (h : a.data.toList = b.data.toList) : a = b := by
  cases a
  cases b
  congr 1
  exact Array.toList_inj.1 h
theorem bz (s : ByteArray) : s.size = s.data.toList.length := by rw [Array.length_toList]; rfl
theorem bt_get (s : ByteArray) (i : Nat) (h : i < s.data.toList.length) : bt s (i : Int) = (s.data.toList[i].toNat : Int) := by
  have h' : ((i : Int)).toNat < s.size := by rw [bz]; simpa using h
  unfold bt
  rw [dif_pos h']
  rfl
/-- A text's words, told by the first byte. -/
def cutL : List UInt8 → List (List UInt8)
  | [] => [[]]
  | b :: l => if b = 32 then [] :: cutL l else (match cutL l with
    | h :: t => (b :: h) :: t
    | [] => [[b]])
def addH (p : List UInt8) : List (List UInt8) → List (List UInt8)
  | h :: t => (p ++ h) :: t
  | [] => [p]
theorem cutL_ne (b : UInt8) (l : List UInt8) (h : b ≠ 32) : cutL (b :: l) = addH [b] (cutL l) := by
  simp only [cutL, if_neg h]
  cases cutL l <;> rfl
theorem cutL_sp (l : List UInt8) : cutL (32 :: l) = [] :: cutL l := by simp [cutL]
theorem cutL_some (l : List UInt8) : ∃ h t, cutL l = h :: t := by
  induction l with
  | nil => exact ⟨_, _, rfl⟩
  | cons b l ih =>
    by_cases h : b = 32
    · subst h
      exact ⟨_, _, cutL_sp l⟩
    · obtain ⟨x, t, e⟩ := ih
      rw [cutL_ne b l h, e]
      exact ⟨_, _, rfl⟩
theorem addH_addH (p q : List UInt8) (w : List (List UInt8)) : addH p (addH q w) = addH (p ++ q) w := by
  cases w <;> simp [addH]
theorem addH_nil (l : List UInt8) : addH [] (cutL l) = cutL l := by
  obtain ⟨h, t, e⟩ := cutL_some l
  rw [e]
  rfl
theorem cutL_run (p l : List UInt8) (hp : ∀ b ∈ p, b ≠ 32) : cutL (p ++ l) = addH p (cutL l) := by
  induction p with
  | nil => rw [addH_nil]; rfl
  | cons b p ih =>
    rw [List.cons_append, cutL_ne b _ (hp b (by simp)), ih (fun x hx => hp x (by simp [hx])), addH_addH]
    rfl
theorem cutL_length (l : List UInt8) : (cutL l).length ≤ l.length + 1 := by
  induction l with
  | nil => simp [cutL]
  | cons b l ih =>
    by_cases h : b = 32
    · subst h
      rw [cutL_sp]
      simp
      omega
    · rw [cutL_ne b l h]
      obtain ⟨x, t, e⟩ := cutL_some l
      rw [e] at ih ⊢
      simp [addH] at ih ⊢
      omega
/-- The first blank. -/
theorem first_blank : ∀ l : List UInt8, (Lib.index l [32] = -1 ∧ ∀ b ∈ l, b ≠ 32) ∨ ∃ p r, l = p ++ 32 :: r ∧ (∀ b ∈ p, b ≠ 32) ∧ Lib.index l [32] = (p.length : Int)
  | [] => .inl ⟨rfl, by simp⟩
  | b :: l => by
    by_cases h : b = 32
    · subst h
      exact .inr ⟨[], l, rfl, by simp, by rw [Lib.index]; simp [List.isPrefixOf]⟩
    · have hp : ([32] : List UInt8).isPrefixOf (b :: l) = false := by simp [List.isPrefixOf, Ne.symm h]
      have hix : Lib.index (b :: l) [32] = if Lib.index l [32] == -1 then -1 else Lib.index l [32] + 1 := by rw [Lib.index, hp]; simp
      rcases first_blank l with ⟨h1, h2⟩ | ⟨p, r, h1, h2, h3⟩
      · refine .inl ⟨by rw [hix, h1]; rfl, fun x hx => ?_⟩
        rcases List.mem_cons.1 hx with rfl | hx
        · exact h
        · exact h2 x hx
      · refine .inr ⟨b :: p, r, by rw [h1]; rfl, fun x hx => ?_, ?_⟩
        · rcases List.mem_cons.1 hx with rfl | hx
          · exact h
          · exact h2 x hx
        · rw [hix, h3, if_neg (by simp), List.length_cons]
          omega
theorem split_words : ∀ (n : Nat) (s : ByteArray), s.data.toList.length ≤ n → (Lib.splitB ⟨#[32]⟩ 0 (Lib.countB s ⟨#[32]⟩) s).map (fun x => x.data.toList) = cutL s.data.toList
  | n, s, hn => by
    rcases first_blank s.data.toList with ⟨h1, h2⟩ | ⟨p, r, h1, h2, h3⟩
    · have hm : Lib.indexB s ⟨#[32]⟩ = -1 := h1
      rw [Lib.splitB_miss _ _ _ _ hm]
      have := cutL_run s.data.toList [] h2
      rw [List.append_nil] at this
      rw [this]
      simp [cutL, addH]
    · have hm : Lib.indexB s ⟨#[32]⟩ = (p.length : Int) := h3
      have hc := Lib.countB_hit s ⟨#[32]⟩ p.length (by decide) hm
      rw [hc, Nat.add_comm 1, Lib.splitB_hit _ _ _ _ _ hm, List.map_cons]
      have e1 : (s.extract (p.length + (⟨#[32]⟩ : ByteArray).size) s.size).data.toList = r := by
        rw [Lib.extract_to_end, h1, show (⟨#[32]⟩ : ByteArray).size = 1 from rfl]
        simp
      have e0 : (s.extract 0 (p.length + 0)).data.toList = p := by
        rw [Lib.extract_data, h1]
        simp
      cases n with
      | zero =>
        rw [h1] at hn
        simp at hn
      | succ n =>
        rw [split_words n _ (by rw [e1]; rw [h1] at hn; simp at hn; omega), e0, e1, h1, cutL_run p _ h2, cutL_sp]
        simp [addH]
set_option maxHeartbeats 800000 in
theorem cut_loop (s : ByteArray) (hs : s.size ≤ 1048576) : ∀ (l : List UInt8) (k i f : Nat) (p : List UInt8) (out : List ByteArray), s.data.toList.drop f = p ++ l → i = f + p.length → i ≤ s.size → (∀ b ∈ p, b ≠ 32) → l.length + 1 < k → out.length ≤ i →
    ∃ r, spec_l10Cut.l0 k s 32 out (f : Int) (i : Int) = some r ∧ r.map (fun x => x.data.toList) = out.map (fun x => x.data.toList) ++ addH p (cutL l)
  | l, k, i, f, p, out, hd, hi, hz, hp, hk, ho => by
    obtain ⟨k, rfl⟩ : ∃ m, k = m + 1 := ⟨k - 1, by omega⟩
    have hlen := congrArg List.length hd
    rw [List.length_drop, List.length_append, ← bz] at hlen
    have hl : l.length = s.size - i := by omega
    have hx : (s.extract ((f : Int)).toNat ((i : Int)).toNat).data.toList = p := by
      rw [Lib.extract_data]
      simp only [Int.toNat_natCast]
      rw [hd, hi, show f + p.length - f = p.length by omega]
      simp
    simp only [spec_l10Cut.l0]
    rw [if_pos (by omega)]
    cases l with
    | nil =>
      simp at hl
      have e : (i : Int) = (s.size : Int) := by omega
      rw [if_pos e, if_pos (by omega), if_pos (by omega), if_pos (by omega)]
      obtain ⟨k, rfl⟩ : ∃ m, k = m + 1 := ⟨k - 1, by simp at hk; omega⟩
      simp only [spec_l10Cut.l0]
      rw [w64n (by omega), if_neg (by omega)]
      refine ⟨_, rfl, ?_⟩
      rw [List.map_append, List.map_cons, List.map_nil, hx]
      simp [cutL, addH]
    | cons b l =>
      simp at hl
      have hlt : i < s.data.toList.length := by rw [← bz]; omega
      have hb : s.data.toList[i] = b := by
        have h1 : (s.data.toList.drop f)[p.length]? = some b := by rw [hd]; simp
        rw [List.getElem?_drop, ← hi, List.getElem?_eq_getElem hlt] at h1
        exact Option.some.inj h1
      rw [if_neg (by omega), if_pos (by omega), if_pos (by omega), bt_get s i hlt, hb]
      by_cases h32 : b = 32
      · subst h32
        rw [if_pos (by decide), if_pos (by omega), if_pos (by omega), if_pos (by omega), w64n (by omega)]
        obtain ⟨r, h1, h2⟩ := cut_loop s hs l k (i + 1) (i + 1) [] (out ++ [s.extract ((f : Int)).toNat ((i : Int)).toNat]) (by
          have h3 : s.data.toList.drop (f + (p.length + 1)) = l := by
            rw [← List.drop_drop, hd]
            simp
          rw [List.nil_append, ← h3]
          congr 1
          omega) (by simp) (by omega) (by simp) (by simp at hk; omega) (by simp; omega)
        refine ⟨r, h1, ?_⟩
        rw [h2, cutL_sp, addH_nil, List.map_append, List.map_cons, List.map_nil, hx]
        simp [addH]
      · have hne : ¬ ((b.toNat : Int) = 32) := by
          intro h
          apply h32
          apply UInt8.toNat_inj.1
          have : b.toNat = 32 := by omega
          rw [this]
          rfl
        rw [if_neg hne, w64n (by omega)]
        obtain ⟨r, h1, h2⟩ := cut_loop s hs l k (i + 1) f (p ++ [b]) out (by rw [hd]; simp) (by simp; omega) (by omega) (by
          intro x hx
          rcases List.mem_append.1 hx with h | h
          · exact hp x h
          · simp at h
            subst h
            exact h32) (by simp at hk; omega) (by omega)
        refine ⟨r, h1, ?_⟩
        rw [h2, cutL_ne b l h32, addH_addH]
theorem map_inj {xs ys : List ByteArray} (h : xs.map (fun x => x.data.toList) = ys.map (fun x => x.data.toList)) : xs = ys := by
  induction xs generalizing ys with
  | nil =>
    cases ys with
    | nil => rfl
    | cons _ _ => simp at h
  | cons x xs ih =>
    cases ys with
    | nil => simp at h
    | cons y ys =>
      simp only [List.map_cons, List.cons.injEq] at h
      rw [bx h.1, ih h.2]
/-- The words of both. -/
theorem words_same (s : ByteArray) (hs : s.size ≤ 1048576) (k : Nat) (hk : s.size + 2 ≤ k) : ∃ ws, spec_l10Cut.f k s 32 = some ws ∧ strings_Split.f s (⟨#[32]⟩ : ByteArray) = some ws ∧ ws.length ≤ s.size + 1 := by
  obtain ⟨r, h1, h2⟩ := cut_loop s hs s.data.toList k 0 0 [] [] (by simp) (by simp) (by omega) (by simp) (by rw [← bz]; omega) (by simp)
  refine ⟨r, h1, ?_, ?_⟩
  · unfold strings_Split.f splitF
    rw [if_pos (by omega), if_pos (by decide)]
    congr 1
    apply map_inj
    rw [split_words _ s (Nat.le_refl _), h2, addH_nil]
    simp
  · have := congrArg List.length h2
    rw [List.length_map, addH_nil] at this
    have h3 := cutL_length s.data.toList
    rw [← bz] at h3
    simp at this
    omega
/-- A decimal digit. -/
def dig (b : UInt8) : Prop := 48 ≤ b.toNat ∧ b.toNat ≤ 57
instance (b : UInt8) : Decidable (dig b) := by unfold dig; infer_instance
def val : List UInt8 → Nat → Nat
  | [], a => a
  | b :: l, a => val l (a * 10 + (b.toNat - 48))
/-- A number of one to four digits, no 0 ahead; -1: it is none. -/
def numS (l : List UInt8) : Int := if l.length < 1 ∨ 4 < l.length ∨ (1 < l.length ∧ l.head? = some 48) then -1 else if ∀ b ∈ l, dig b then (val l 0 : Int) else -1
theorem num_step (a b : Nat) (ha : a ≤ 9999) (h2 : 48 ≤ b) (h3 : b ≤ 57) : wrap64 ((wrap64 ((a : Int) * 10)) + (((b : Int) - 48) % 256)) = ((a * 10 + (b - 48) : Nat) : Int) := by
  have e1 : wrap64 ((a : Int) * 10) = ((a * 10 : Nat) : Int) := by rw [w64 (by omega)]; omega
  have e2 : ((b : Int) - 48) % 256 = ((b - 48 : Nat) : Int) := by omega
  rw [e1, e2, w64 (by omega)]
  omega
set_option maxHeartbeats 800000 in
theorem num_loop (s : ByteArray) (hs : s.size ≤ 4) : ∀ (l : List UInt8) (k i a : Nat), s.data.toList.drop i = l → i ≤ s.size → l.length < k → ((i = 0 ∧ a = 0) ∨ (i = 1 ∧ a ≤ 9) ∨ (i = 2 ∧ a ≤ 99) ∨ (i = 3 ∧ a ≤ 999) ∨ (i = 4 ∧ a ≤ 9999)) →
    spec_l10Number.l0 k s (a : Int) (i : Int) = some (if ∀ b ∈ l, dig b then (val l a : Int) else -1)
  | l, k, i, a, hd, hi, hk, ha => by
    obtain ⟨k, rfl⟩ : ∃ m, k = m + 1 := ⟨k - 1, by omega⟩
    have hlen := congrArg List.length hd
    rw [List.length_drop, ← bz] at hlen
    have ha' : a ≤ 9999 := by omega
    have HA := Aside0.mk ha
    clear ha
    simp only [spec_l10Number.l0]
    cases l with
    | nil =>
      simp at hlen
      rw [if_neg (by omega), if_pos (by simp)]
      rfl
    | cons b l =>
      simp at hlen
      have hlt : i < s.data.toList.length := by rw [← bz]; omega
      have hb : s.data.toList[i] = b := by
        have h1 : (s.data.toList.drop i)[0]? = some b := by rw [hd]; simp
        rw [List.getElem?_drop, Nat.add_zero, List.getElem?_eq_getElem hlt] at h1
        exact Option.some.inj h1
      rw [if_pos (by omega), if_pos (by omega), bt_get s i hlt, hb]
      by_cases h1 : dig b
      · obtain ⟨h2, h3⟩ := h1
        rw [if_neg (by omega), if_neg (by omega), w64n (n := i) (by omega)]
        rw [num_step a b.toNat ha' h2 h3, num_loop s hs l k (i + 1) (a * 10 + (b.toNat - 48)) (by
          have h4 : s.data.toList.drop (i + 1) = (s.data.toList.drop i).drop 1 := by rw [List.drop_drop]
          rw [h4, hd]
          rfl) (by omega) (by simp at hk; omega) (by
          rcases HA.out with h | h | h | h | h
          · exact .inr (.inl ⟨by omega, by omega⟩)
          · exact .inr (.inr (.inl ⟨by omega, by omega⟩))
          · exact .inr (.inr (.inr (.inl ⟨by omega, by omega⟩)))
          · exact .inr (.inr (.inr (.inr ⟨by omega, by omega⟩)))
          · omega)]
        congr 1
        by_cases hq : ∀ x ∈ l, dig x
        · rw [if_pos hq, if_pos (by
            intro x hx
            rcases List.mem_cons.1 hx with rfl | hx
            · exact ⟨h2, h3⟩
            · exact hq x hx)]
          rfl
        · rw [if_neg hq, if_neg (fun h => hq (fun x hx => h x (by simp [hx])))]
      · rw [if_neg (fun h : ∀ x ∈ b :: l, dig x => h1 (h b (by simp)))]
        unfold dig at h1
        by_cases h2 : (b.toNat : Int) < 48
        · rw [if_pos h2]
        · rw [if_neg h2, if_pos (by omega)]
theorem spec_num (s : ByteArray) (k : Nat) : spec_l10Number.f (k + 8) s = some (numS s.data.toList) := by
  unfold spec_l10Number.f numS
  rw [← bz]
  by_cases h1 : (s.size : Int) < 1
  · rw [if_pos h1, if_pos (by omega)]
    simp [spec_l10Number.j0]
  rw [if_neg h1]
  by_cases h2 : (s.size : Int) > 4
  · rw [if_pos h2, if_pos (by omega)]
    simp [spec_l10Number.j0]
  rw [if_neg h2]
  have go : spec_l10Number.l0 (k + 7) s 0 0 = some (if ∀ b ∈ s.data.toList, dig b then (val s.data.toList 0 : Int) else -1) :=
    num_loop s (by omega) s.data.toList (k + 7) 0 0 (by simp) (by omega) (by rw [← bz]; omega) (by omega)
  by_cases h3 : (s.size : Int) > 1
  · rw [if_pos h3, if_pos (by omega)]
    have hlt : 0 < s.data.toList.length := by rw [← bz]; omega
    have e : bt s 0 = (s.data.toList[0].toNat : Int) := bt_get s 0 hlt
    have eh : s.data.toList.head? = some s.data.toList[0] := by
      rw [List.head?_eq_getElem?, List.getElem?_eq_getElem hlt]
    rw [e, eh]
    by_cases h4 : s.data.toList[0] = 48
    · rw [if_pos (.inr (.inr ⟨by omega, by rw [h4]⟩)), h4]
      simp [spec_l10Number.j0]
    · have hne : ¬ ((s.data.toList[0].toNat : Int) = 48) := by
        intro h
        apply h4
        apply UInt8.toNat_inj.1
        have : s.data.toList[0].toNat = 48 := by omega
        rw [this]
        rfl
      rw [if_neg (by
        rintro (h | h | ⟨_, h⟩)
        · omega
        · omega
        · exact h4 (Option.some.inj h)), beq_eq_false_iff_ne.mpr hne]
      simp only [spec_l10Number.j0, Bool.false_eq_true, if_false]
      exact go
  · rw [if_neg h3, if_neg (by omega)]
    simp only [spec_l10Number.j0, Bool.false_eq_true, if_false]
    exact go
theorem of_dig {b : UInt8} (h : dig b) : UInt8.ofNat (48 + (b.toNat - 48)) = b := by
  unfold dig at h
  rw [show 48 + (b.toNat - 48) = b.toNat by omega, UInt8.ofNat_toNat]
theorem dd_step (n d : Nat) (h : 1 ≤ n) (hd : d ≤ 9) : Lib.decDigits (n * 10 + d) = Lib.decDigits n ++ [UInt8.ofNat (48 + d)] := by
  rw [Lib.decDigits, dif_neg (by omega), show (n * 10 + d) / 10 = n by omega, show (n * 10 + d) % 10 = d by omega]
theorem dd_dig : ∀ (m n : Nat), n ≤ m → (∀ b ∈ Lib.decDigits n, dig b) ∧ ∃ c r, Lib.decDigits n = c :: r ∧ (1 ≤ n → c ≠ 48) ∧ (n < 10 → r = [])
  | m, n, hm => by
    have dg : ∀ d, d ≤ 9 → (UInt8.ofNat (48 + d)).toNat = 48 + d := fun d hd => by
      rw [UInt8.toNat_ofNat_of_lt' (show 48 + d < 256 by omega)]
    by_cases h : n < 10
    · rw [Lib.decDigits_one h]
      refine ⟨fun b hb => ?_, _, _, rfl, fun h1 he => ?_, fun _ => rfl⟩
      · obtain rfl := List.mem_singleton.1 hb
        unfold dig
        rw [dg n (by omega)]
        omega
      · have := congrArg UInt8.toNat he
        rw [dg n (by omega)] at this
        have h48 : (48 : UInt8).toNat = 48 := rfl
        omega
    · cases m with
      | zero => omega
      | succ m =>
        obtain ⟨h1, c, r, h2, h3, _⟩ := dd_dig m (n / 10) (by omega)
        have e := dd_step (n / 10) (n % 10) (by omega) (by omega)
        rw [show n / 10 * 10 + n % 10 = n by omega] at e
        rw [e]
        refine ⟨fun b hb => ?_, c, r ++ [UInt8.ofNat (48 + n % 10)], by rw [h2]; rfl, fun _ => h3 (by omega), fun h => by omega⟩
        rcases List.mem_append.1 hb with hb | hb
        · exact h1 b hb
        · obtain rfl := List.mem_singleton.1 hb
          unfold dig
          rw [dg (n % 10) (by omega)]
          omega
theorem pu_step (acc : Nat) (c : UInt8) (r : List UInt8) (h : dig c) (h1 : acc ≤ 100000) : Lib.parseUintM (2 ^ 64 - 1) acc (c :: r) = Lib.parseUintM (2 ^ 64 - 1) (acc * 10 + (c.toNat - 48)) r := by
  have h2 := h
  unfold dig at h2
  simp only [Lib.parseUintM]
  rw [if_pos h2, if_neg (by omega), if_neg (by omega)]
theorem parse_good (c : UInt8) (r : List UInt8) (h : dig c) (v : Nat) (hv : v ≤ 100000) (hp : Lib.parseUintM (2 ^ 64 - 1) 0 (c :: r) = .ok v) : Lib.parseIntB 64 (c :: r) = .ok (v : Int) := by
  unfold dig at h
  rw [Lib.parseIntB_plain 64 c r (by omega) (by omega)]
  unfold Lib.parseUintB
  rw [if_neg (by simp), hp]
  unfold Lib.signlessC
  simp only []
  rw [if_neg (by omega)]
set_option maxHeartbeats 800000 in
theorem good_num (l : List UInt8) (h1 : 1 ≤ l.length) (h4 : l.length ≤ 4) (hz : 1 < l.length → l.head? ≠ some 48) (hd : ∀ b ∈ l, dig b) : Lib.parseIntB 64 l = .ok (val l 0 : Int) ∧ Lib.itoa (val l 0 : Int) = l := by
  have nz : ∀ {a : UInt8}, dig a → a ≠ 48 → 1 ≤ a.toNat - 48 := fun {a} h hne => by
    unfold dig at h
    have : a.toNat ≠ 48 := fun he => hne (UInt8.toNat_inj.1 (by rw [he]; rfl))
    omega
  match l, h1, h4, hz, hd with
  | [a], _, _, _, hd =>
    have da := hd a (by simp)
    have da' := da
    unfold dig at da'
    have e : val [a] 0 = a.toNat - 48 := by simp [val]
    rw [e, Lib.itoa_nonneg, Lib.decDigits_one (by omega), of_dig da]
    exact ⟨parse_good a [] da _ (by omega) (by rw [pu_step 0 a [] da (by omega), Nat.zero_mul, Nat.zero_add]; rfl), rfl⟩
  | [a, b], _, _, hz, hd =>
    have da := hd a (by simp)
    have db := hd b (by simp)
    have n1 := nz da (fun he => hz (by simp) (by rw [he]; rfl))
    have da' := da
    have db' := db
    unfold dig at da' db'
    have e : val [a, b] 0 = (a.toNat - 48) * 10 + (b.toNat - 48) := by simp [val]
    rw [e, Lib.itoa_nonneg, dd_step _ _ n1 (by omega), Lib.decDigits_one (by omega), of_dig da, of_dig db]
    exact ⟨parse_good a [b] da _ (by omega) (by rw [pu_step 0 a _ da (by omega), Nat.zero_mul, Nat.zero_add, pu_step _ b _ db (by omega)]; rfl), rfl⟩
  | [a, b, c], _, _, hz, hd =>
    have da := hd a (by simp)
    have db := hd b (by simp)
    have dc := hd c (by simp)
    have n1 := nz da (fun he => hz (by simp) (by rw [he]; rfl))
    have da' := da
    have db' := db
    have dc' := dc
    unfold dig at da' db' dc'
    have e : val [a, b, c] 0 = ((a.toNat - 48) * 10 + (b.toNat - 48)) * 10 + (c.toNat - 48) := by simp [val]
    rw [e, Lib.itoa_nonneg, dd_step _ _ (by omega) (by omega), dd_step _ _ n1 (by omega), Lib.decDigits_one (by omega), of_dig da, of_dig db, of_dig dc]
    exact ⟨parse_good a [b, c] da _ (by omega) (by rw [pu_step 0 a _ da (by omega), Nat.zero_mul, Nat.zero_add, pu_step _ b _ db (by omega), pu_step _ c _ dc (by omega)]; rfl), rfl⟩
  | [a, b, c, d], _, _, hz, hd =>
    have da := hd a (by simp)
    have db := hd b (by simp)
    have dc := hd c (by simp)
    have de := hd d (by simp)
    have n1 := nz da (fun he => hz (by simp) (by rw [he]; rfl))
    have da' := da
    have db' := db
    have dc' := dc
    have de' := de
    unfold dig at da' db' dc' de'
    have e : val [a, b, c, d] 0 = (((a.toNat - 48) * 10 + (b.toNat - 48)) * 10 + (c.toNat - 48)) * 10 + (d.toNat - 48) := by simp [val]
    rw [e, Lib.itoa_nonneg, dd_step _ _ (by omega) (by omega), dd_step _ _ (by omega) (by omega), dd_step _ _ n1 (by omega), Lib.decDigits_one (by omega), of_dig da, of_dig db, of_dig dc, of_dig de]
    exact ⟨parse_good a [b, c, d] da _ (by omega) (by rw [pu_step 0 a _ da (by omega), Nat.zero_mul, Nat.zero_add, pu_step _ b _ db (by omega), pu_step _ c _ dc (by omega), pu_step _ d _ de (by omega)]; rfl), rfl⟩
/-- What the two tell of a word. -/
theorem num_both (s : ByteArray) : ((numF s).2 = true ∧ (numF s).1 = numS s.data.toList ∧ 0 ≤ numS s.data.toList) ∨ ((numF s).2 = false ∧ numS s.data.toList = -1) := by
  by_cases hg : (1 ≤ s.data.toList.length ∧ s.data.toList.length ≤ 4 ∧ (1 < s.data.toList.length → s.data.toList.head? ≠ some 48)) ∧ ∀ b ∈ s.data.toList, dig b
  · obtain ⟨⟨g1, g2, g3⟩, g4⟩ := hg
    obtain ⟨p1, p2⟩ := good_num _ g1 g2 g3 g4
    left
    have e : numS s.data.toList = (val s.data.toList 0 : Int) := by
      unfold numS
      rw [if_neg (by
        rintro (h | h | ⟨h, h'⟩)
        · omega
        · omega
        · exact g3 h h'), if_pos g4]
    unfold numF
    rw [p1, e]
    simp only []
    rw [if_pos (by omega), if_pos (by rw [bz]; exact g2)]
    refine ⟨?_, by first | rfl | trivial, by omega⟩
    rw [decide_eq_true_eq, p2]
  · right
    have e : numS s.data.toList = -1 := by
      unfold numS
      by_cases h : s.data.toList.length < 1 ∨ 4 < s.data.toList.length ∨ (1 < s.data.toList.length ∧ s.data.toList.head? = some 48)
      · rw [if_pos h]
      · rw [if_neg h, if_neg]
        intro hq
        apply hg
        refine ⟨⟨by omega, by omega, fun h1 h2 => h (.inr (.inr ⟨h1, h2⟩))⟩, hq⟩
    refine ⟨?_, e⟩
    unfold numF
    rcases hp : Lib.parseIntB 64 s.data.toList with v | _ | _
    rotate_left
    · rfl
    · rfl
    · simp only []
      by_cases h0 : 0 ≤ v
      · rw [if_pos h0]
        by_cases h4 : s.size ≤ 4
        · rw [if_pos h4, decide_eq_false]
          intro hq
          have hq2 : Lib.itoa v = s.data.toList := by
            have := congrArg (fun l => l) hq
            simpa [ByteArray.toList_eq] using this
          obtain ⟨n, rfl⟩ := Int.eq_ofNat_of_zero_le h0
          rw [Lib.itoa_nonneg] at hq2
          obtain ⟨d1, c, r, d2, d3, d4⟩ := dd_dig n n (Nat.le_refl _)
          apply hg
          rw [← hq2]
          refine ⟨⟨by rw [d2]; simp, by rw [hq2, ← bz]; exact h4, fun hl he => ?_⟩, d1⟩
          rw [d2] at hl he
          simp at he
          by_cases hn : n < 10
          · rw [d4 hn] at hl
            simp at hl
          · exact d3 (by omega) he
        · rw [if_neg h4]
      · rw [if_neg h0]
theorem way_ok {xs : List Int} (hl : xs.length = 7) : ∀ (d k i : Nat), xs.length - i = d → i ≤ xs.length → d < k → spec_l10Fault.l0 k xs (i : Int) = some 0 → ∀ j (hj : j < xs.length), i ≤ j → 0 ≤ xs[j] ∧ xs[j] ≤ 511 := by
  intro d
  induction d with
  | zero =>
    intro k i hd hi hk h j hj hij
    omega
  | succ d ih =>
    intro k i hd hi hk h j hj hij
    obtain ⟨k, rfl⟩ : ∃ m, k = m + 1 := ⟨k - 1, by omega⟩
    have hx : i < xs.length := by omega
    have g1 : (i : Int) < (xs.length : Int) := by omega
    have g2 : 0 ≤ (i : Int) := by omega
    simp only [spec_l10Fault.l0, spec_l1In_eq, Option.bind_some, if_pos g1, if_pos g2, decide_eq_true_eq] at h
    rw [rd_nat hx, w64n (by omega)] at h
    have key : (0 ≤ xs[i] ∧ xs[i] ≤ 511) ∧ spec_l10Fault.l0 k xs ((i + 1 : Nat) : Int) = some 0 := by
      by_cases h0 : (i : Int) = 0
      · rw [if_pos h0] at h
        split at h
        · rename_i q
          exact ⟨q, h⟩
        · simp at h
      · rw [if_neg h0] at h
        split at h
        · rename_i q
          exact ⟨by omega, h⟩
        · simp at h
    by_cases e : j = i
    · subst e
      exact key.1
    · exact ih k (i + 1) (by omega) (by omega) (by omega) key.2 j hj (by omega)
def nums (ws : List ByteArray) : List Int := ws.map (fun w => numS w.data.toList)
theorem read_some {w : ByteArray} (h : w.size ≤ 281474976710656) : impl_readNumber.f w = some (numF w) := by
  unfold impl_readNumber.f
  rw [if_pos h]
/-- What stands behind the reference's loop, and behind the program's. -/
theorem spec_end (xs : List Int) (hl : xs.length = 7) (k : Nat) (ws : List ByteArray) : spec_l10Parse.l0 (k + 12) ws xs 7 = (spec_l10Fault.f (k + 11) (rd xs 0) (rd xs 1) (rd xs 2) (rd xs 3) (rd xs 4) (rd xs 5) (rd xs 6)).bind fun t => some (rd xs 0, rd xs 1, rd xs 2, rd xs 3, rd xs 4, rd xs 5, rd xs 6, (t == 0)) := by
  simp only [spec_l10Parse.l0]
  rw [if_neg (by omega), if_pos (by omega), if_pos (by omega), if_pos (by omega), if_pos (by omega), if_pos (by omega), if_pos (by omega), if_pos (by omega)]
theorem spec_loop (ws : List ByteArray) (hw : ws.length = 7) : ∀ (d k i : Nat), 7 - i = d → i ≤ 7 → spec_l10Parse.l0 (k + 12 + d) ws ((nums ws).take i) (i : Int) = spec_l10Parse.l0 (k + 12) ws (nums ws) 7 := by
  intro d
  induction d with
  | zero =>
    intro k i hd hi
    obtain rfl : i = 7 := by omega
    rw [List.take_of_length_le (by simp [nums, hw])]
    rfl
  | succ d ih =>
    intro k i hd hi
    have hlt : i < ws.length := by omega
    have e1 : spec_l10Parse.l0 (k + 12 + (d + 1)) ws ((nums ws).take i) (i : Int) = spec_l10Parse.l0 (k + 12 + d) ws ((nums ws).take i ++ [numS ws[i].data.toList]) ((i + 1 : Nat) : Int) := by
      rw [show k + 12 + (d + 1) = (k + 12 + d) + 1 by omega]
      simp only [spec_l10Parse.l0]
      rw [if_pos (by omega), if_pos (by omega), if_pos (by omega), rdOf_nat hlt, show k + 12 + d = (k + 4 + d) + 8 by omega, spec_num, Option.bind_some, if_pos (by rw [List.length_take]; omega), w64n (n := i) (by omega)]
    rw [e1, ← ih k (i + 1) (by omega) (by omega)]
    congr 1
    rw [List.take_add_one]
    congr 1
    unfold nums
    rw [List.getElem?_map, List.getElem?_eq_getElem hlt]
    rfl
theorem impl_bad (ws : List ByteArray) (hz : ∀ w ∈ ws, w.size ≤ 281474976710656) (hn : ws.length ≤ 2000000) : ∀ (d k i : Nat) (acc : List Int), ws.length - i = d → i ≤ ws.length → d < k → acc.length ≤ i → (∃ w ∈ ws.drop i, (numF w).2 = false) →
    impl_ParseWay.l0 k acc ws (ws.length : Int) (i : Int) = some (5, 0, 0, 0, 0, 0, 0, 0) := by
  intro d
  induction d with
  | zero =>
    intro k i acc hd hi hk ha hb
    obtain ⟨w, hw, _⟩ := hb
    rw [List.drop_eq_nil_of_le (by omega)] at hw
    cases hw
  | succ d ih =>
    intro k i acc hd hi hk ha hb
    obtain ⟨k, rfl⟩ : ∃ m, k = m + 1 := ⟨k - 1, by omega⟩
    have hlt : i < ws.length := by omega
    simp only [impl_ParseWay.l0]
    rw [if_pos (by omega), if_pos (by omega), if_pos (by omega), rdOf_nat hlt, read_some (hz _ (List.getElem_mem hlt)), Option.bind_some]
    by_cases h2 : (numF ws[i]).2 = true
    · rw [if_pos h2, if_pos (by omega), w64n (n := i) (by omega)]
      refine ih k (i + 1) _ (by omega) (by omega) (by omega) (by simp; omega) ?_
      obtain ⟨w, hw, h3⟩ := hb
      rw [List.drop_eq_getElem_cons hlt] at hw
      rcases List.mem_cons.1 hw with rfl | hw
      · rw [h2] at h3
        cases h3
      · exact ⟨w, hw, h3⟩
    · rw [if_neg h2]
theorem impl_good (ws : List ByteArray) (hz : ∀ w ∈ ws, w.size ≤ 281474976710656) (hn : ws.length ≤ 2000000) (hg : ∀ w ∈ ws, (numF w).2 = true ∧ (numF w).1 = numS w.data.toList) : ∀ (d k i : Nat), ws.length - i = d → i ≤ ws.length →
    impl_ParseWay.l0 (k + 12 + d) ((nums ws).take i) ws (ws.length : Int) (i : Int) = impl_ParseWay.l0 (k + 12) (nums ws) ws (ws.length : Int) (ws.length : Int) := by
  intro d
  induction d with
  | zero =>
    intro k i hd hi
    obtain rfl : i = ws.length := by omega
    rw [List.take_of_length_le (by simp [nums]), Nat.add_zero]
  | succ d ih =>
    intro k i hd hi
    have hlt : i < ws.length := by omega
    obtain ⟨g1, g2⟩ := hg _ (List.getElem_mem hlt)
    have e1 : impl_ParseWay.l0 (k + 12 + (d + 1)) ((nums ws).take i) ws (ws.length : Int) (i : Int) = impl_ParseWay.l0 (k + 12 + d) ((nums ws).take i ++ [numS ws[i].data.toList]) ws (ws.length : Int) ((i + 1 : Nat) : Int) := by
      rw [show k + 12 + (d + 1) = (k + 12 + d) + 1 by omega]
      simp only [impl_ParseWay.l0]
      rw [if_pos (by omega), if_pos (by omega), if_pos (by omega), rdOf_nat hlt, read_some (hz _ (List.getElem_mem hlt)), Option.bind_some, if_pos g1, if_pos (by rw [List.length_take]; omega), w64n (n := i) (by omega), g2]
    rw [e1, ← ih k (i + 1) (by omega) (by omega)]
    congr 1
    rw [List.take_add_one]
    congr 1
    unfold nums
    rw [List.getElem?_map, List.getElem?_eq_getElem hlt]
    rfl
theorem rd_ok {xs : List Int} {r : Int} (hl : xs.length = 7) (k : Nat) (h : spec_l10Fault.f (k + 10) (rd xs 0) (rd xs 1) (rd xs 2) (rd xs 3) (rd xs 4) (rd xs 5) (rd xs 6) = some 0) : ∀ x ∈ xs, 0 ≤ x := by
  match xs, hl with
  | [a, b, c, d, e, f, g], _ =>
    have h' : spec_l10Fault.l0 (k + 10) [a, b, c, d, e, f, g] ((0 : Nat) : Int) = some 0 := h
    intro x hx
    obtain ⟨j, hj, rfl⟩ := List.getElem_of_mem hx
    exact (way_ok (xs := [a, b, c, d, e, f, g]) rfl 7 (k + 10) 0 rfl (Nat.zero_le _) (by omega) h' j hj (Nat.zero_le _)).1
/-- The two answers are one: and what a good one is. -/
theorem parse_same (s : ByteArray) (hs : s.size ≤ 1048576) (k : Nat) (hk : s.size + 100 ≤ k) : ∃ y, spec_ParseWay.f k s = some y ∧ impl_ParseWay.f k s = some y := by
  obtain ⟨ws, h1, h2, h3⟩ := words_same s hs k (by omega)
  have hz : ∀ w ∈ ws, w.size ≤ 281474976710656 := by
    have h4 : ws = Lib.splitB ⟨#[32]⟩ 0 (Lib.countB s ⟨#[32]⟩) s := by
      unfold strings_Split.f splitF at h2
      rw [if_pos (by omega), if_pos (by decide)] at h2
      exact (Option.some.inj h2).symm
    have h5 := split_words _ s (Nat.le_refl _)
    rw [← h4] at h5
    intro w hw
    have h6 : w.data.toList ∈ cutL s.data.toList := by
      rw [← h5]
      exact List.mem_map.2 ⟨w, hw, rfl⟩
    have h7 : ∀ (l : List UInt8), ∀ p ∈ cutL l, p.length ≤ l.length := by
      intro l
      induction l with
      | nil =>
        intro p hp
        simp [cutL] at hp
        simp [hp]
      | cons b l ih =>
        intro p hp
        by_cases hb : b = 32
        · subst hb
          rw [cutL_sp] at hp
          rcases List.mem_cons.1 hp with rfl | hp
          · simp
          · have := ih p hp
            simp
            omega
        · rw [cutL_ne b l hb] at hp
          obtain ⟨x, t, e⟩ := cutL_some l
          rw [e] at hp ih
          simp only [addH] at hp
          rcases List.mem_cons.1 hp with rfl | hp
          · have := ih x (by simp)
            simp
            omega
          · have := ih p (by simp [hp])
            simp
            omega
    have := h7 _ _ h6
    rw [← bz, ← bz] at this
    omega
  unfold spec_ParseWay.f impl_ParseWay.f
  rw [h1, h2]
  simp only [Option.bind_some]
  have bad_all : (∃ w ∈ ws, (numF w).2 = false) → impl_ParseWay.l0 k [] ws (ws.length : Int) 0 = some (5, 0, 0, 0, 0, 0, 0, 0) := fun hb =>
    impl_bad ws hz (by omega) ws.length k 0 [] (by omega) (Nat.zero_le _) (by omega) (by simp) (by simpa using hb)
  have good_all : (∀ w ∈ ws, (numF w).2 = true) → impl_ParseWay.l0 k [] ws (ws.length : Int) 0 = impl_ParseWay.l0 (k - ws.length - 12 + 12) (nums ws) ws (ws.length : Int) (ws.length : Int) := fun hg => by
    have := impl_good ws hz (by omega) (fun w hw => by
      refine ⟨hg w hw, ?_⟩
      rcases num_both w with h | h
      · exact h.2.1
      · rw [hg w hw] at h
        cases h.1) ws.length (k - ws.length - 12) 0 (by omega) (Nat.zero_le _)
    rw [show k - ws.length - 12 + 12 + ws.length = k by omega] at this
    simpa using this
  by_cases h7 : ws.length = 7
  · have hl : (nums ws).length = 7 := by simp [nums, h7]
    obtain ⟨r, hr⟩ := way_fault (rd (nums ws) 0) (rd (nums ws) 1) (rd (nums ws) 2) (rd (nums ws) 3) (rd (nums ws) 4) (rd (nums ws) 5) (rd (nums ws) 6)
    have e1 : spec_l10Parse.f k ws = some (rd (nums ws) 0, rd (nums ws) 1, rd (nums ws) 2, rd (nums ws) 3, rd (nums ws) 4, rd (nums ws) 5, rd (nums ws) 6, (r == 0)) := by
      unfold spec_l10Parse.f
      rw [if_pos (by omega)]
      have := spec_loop ws h7 7 (k - 19) 0 (by omega) (by omega)
      rw [show k - 19 + 12 + 7 = k by omega] at this
      rw [show spec_l10Parse.l0 k ws [] 0 = spec_l10Parse.l0 (k - 19 + 12) ws (nums ws) 7 by simpa using this, spec_end _ hl, (hr _ (by omega)).1]
      rfl
    rw [e1]
    simp only [Option.bind_some]
    by_cases hg : ∀ w ∈ ws, (numF w).2 = true
    · rw [good_all hg]
      have e2 : impl_ParseWay.l0 (k - ws.length - 12 + 12) (nums ws) ws (ws.length : Int) (ws.length : Int) = if r = 0 then some (0, rd (nums ws) 0, rd (nums ws) 1, rd (nums ws) 2, rd (nums ws) 3, rd (nums ws) 4, rd (nums ws) 5, rd (nums ws) 6) else some (5, 0, 0, 0, 0, 0, 0, 0) := by
        rw [show k - ws.length - 12 + 12 = (k - ws.length - 12 + 11) + 1 by omega]
        simp only [impl_ParseWay.l0, impl_Way_numbers.f, Option.bind_some]
        rw [if_neg (by omega), if_pos (by simp [hl]), if_pos (by omega), if_pos (by omega), if_pos (by omega), if_pos (by omega), if_pos (by omega), if_pos (by omega), if_pos (by omega), (hr _ (by omega)).2, Option.bind_some]
      rw [e2]
      by_cases hr0 : r = 0
      · rw [if_pos hr0, if_pos (by simp [hr0])]
        exact ⟨_, rfl, rfl⟩
      · rw [if_neg hr0, if_neg (by simp [hr0])]
        exact ⟨_, rfl, rfl⟩
    · have hb : ∃ w ∈ ws, (numF w).2 = false := by
        apply Classical.byContradiction
        intro hn
        apply hg
        intro w hw
        cases hq : (numF w).2 with
        | true => rfl
        | false => exact absurd ⟨w, hw, hq⟩ hn
      rw [bad_all hb]
      have hr0 : r ≠ 0 := by
        intro h0
        subst h0
        obtain ⟨w, hw, hq⟩ := hb
        have h8 := rd_ok (r := 0) hl 0 (hr 10 (by omega)).1 (numS w.data.toList) (List.mem_map.2 ⟨w, hw, rfl⟩)
        rcases num_both w with h | h
        · rw [hq] at h
          cases h.1
        · omega
      rw [if_neg (by simp [hr0])]
      exact ⟨_, rfl, rfl⟩
  · have e1 : spec_l10Parse.f k ws = some (0, 0, 0, 0, 0, 0, 0, false) := by
      unfold spec_l10Parse.f
      rw [if_neg (by omega)]
    rw [e1]
    simp only [Option.bind_some, Bool.false_eq_true, if_false]
    by_cases hg : ∀ w ∈ ws, (numF w).2 = true
    · rw [good_all hg]
      have e2 : impl_ParseWay.l0 (k - ws.length - 12 + 12) (nums ws) ws (ws.length : Int) (ws.length : Int) = some (5, 0, 0, 0, 0, 0, 0, 0) := by
        rw [show k - ws.length - 12 + 12 = (k - ws.length - 12 + 11) + 1 by omega]
        simp only [impl_ParseWay.l0, impl_Way_numbers.f, Option.bind_some]
        rw [if_neg (by omega), if_neg (by simp [nums]; omega)]
      rw [e2]
      exact ⟨_, rfl, rfl⟩
    · have hb : ∃ w ∈ ws, (numF w).2 = false := by
        apply Classical.byContradiction
        intro hn
        apply hg
        intro w hw
        cases hq : (numF w).2 with
        | true => rfl
        | false => exact absurd ⟨w, hw, hq⟩ hn
      rw [bad_all hb]
      exact ⟨_, rfl, rfl⟩
theorem FnExactParseWay (s : ByteArray) (_ : s.size ≤ 140737488351232) : ∃ k, laws_FnExactParseWay.f k s = some true := by
  unfold laws_FnExactParseWay.f
  by_cases h : (s.size : Int) > 1048576
  · exact ⟨0, by rw [if_pos h]⟩
  · obtain ⟨y, h1, h2⟩ := parse_same s (by omega) (s.size + 100) (Nat.le_refl _)
    refine ⟨s.size + 100, ?_⟩
    rw [if_neg h, h1, h2]
    simp [laws_eqWayResult.f, laws_eqWay.f]

end Go.Proofs.YtpoafgokngpglaaDoor.Pure
