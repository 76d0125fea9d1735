/- FnAccents: what ComposeChar tells is a character of its own, above 127 and encodable; the large letter gives the large character; AccentChar's answers are the reference's. No condition. -/
import Derived.Test.YtpoafgokngpglaaDoorPFnAccentsx3
import Derived.Test.YtpoafgokngpglaaDoorPlain
namespace Go.Proofs.YtpoafgokngpglaaDoor.Pure
open Go Go.RowKit Go.Proofs.YtpoafgokngpglaaDoor.PFnAccents Go.Proofs.YtpoafgokngpglaaDoorW.PrintWords Go.Proofs.YtpoafgokngpglaaDoorW.PrintLast Go.Proofs.YtpoafgokngpglaaDoorPlain Go.Proofs.YtpoafgokngpglaaDoorCm
set_option linter.unusedVariables false
set_option linter.unusedSimpArgs false

theorem spec_l1In_eq (x a b : Int) : spec_l1In.f x a b = some (decide (a ≤ x ∧ x ≤ b)) := by
  unfold spec_l1In.f
  split <;> (congr 1; simp_all) <;> omega

theorem impl_in_eq (x a b : Int) : impl_in.f x a b = some (decide (a ≤ x ∧ x ≤ b)) := by
  unfold impl_in.f
  split <;> (congr 1; simp_all) <;> omega

theorem spec_l1Char_eq (x : Int) : spec_l1Char.f x = some (isCh x) := by
  unfold spec_l1Char.f isCh
  simp only [spec_l1In_eq, Option.bind_some]
  by_cases h : 0 ≤ x ∧ x ≤ 55295
  · simp [h]
  · rw [if_neg (by simpa using h)]
    congr 1
    simp only [h, false_or]

theorem impl_isChar_eq (x : Int) : impl_isChar.f x = some (isCh x) := by
  unfold impl_isChar.f isCh
  simp only [impl_in_eq, Option.bind_some]
  by_cases h : 0 ≤ x ∧ x ≤ 65535
  · rw [if_pos (by simpa using h), ← decide_not]
    congr 1
    refine decide_eq_decide.2 ?_
    omega
  · rw [if_neg (by simpa using h)]
    congr 1
    symm
    rw [decide_eq_false_iff_not]
    omega

theorem impl_unless_eq (b : Bool) (x : Int) : impl_unless.f b x = some (if b = true then 0 else x) := by
  unfold impl_unless.f
  split <;> rfl


/-- Bytes, as the drawing functions read them. -/
def Bs (xs : List Int) : Prop := xs.length ≤ 2000000 ∧ ∀ y ∈ xs, 0 ≤ y ∧ y ≤ 255
theorem tmod_lt' {x a : Int} (h0 : 0 ≤ x) (ha : 1 ≤ a) : 0 ≤ Int.tmod x a ∧ Int.tmod x a < a := by
  rw [Int.tmod_eq_emod_of_nonneg h0]
  exact ⟨Int.emod_nonneg _ (by omega), Int.emod_lt_of_pos _ (by omega)⟩
theorem rd_byte {xs : List Int} (hb : Bs xs) {i : Int} (h0 : 0 ≤ i) (hi : i < (xs.length : Int)) : 0 ≤ rd xs i ∧ rd xs i ≤ 255 := by
  obtain ⟨n, rfl⟩ := Int.eq_ofNat_of_zero_le h0
  rw [rd_nat (show n < xs.length by omega)]
  exact hb.2 _ (List.getElem_mem _)
theorem next_some {xs : List Int} (hb : Bs xs) {s : Int} (h0 : 0 ≤ s) (h1 : s ≤ 100000) (a : Int) : ∃ v : Int, spec_l1Next.f xs s a = some (v, s + 1) ∧ (1 ≤ a → 0 ≤ v ∧ v < a) := by
  have e1 : wrap64 (s + 1) = s + 1 := w64 (by omega)
  have e2 : wrap64 (s + 1 - 1) = s := by rw [w64 (by omega)]; omega
  unfold spec_l1Next.f
  simp only [e1, e2]
  by_cases g1 : a < 1
  · rw [if_pos g1]
    exact ⟨0, rfl, fun h => by omega⟩
  rw [if_neg g1]
  by_cases g2 : (xs.length : Int) = 0
  · rw [if_pos g2, if_neg (by omega), w64 (by omega)]
    exact ⟨_, rfl, fun h => tmod_lt' (by omega) h⟩
  rw [if_neg g2]
  have hl := hb.1
  obtain ⟨m0, m1⟩ := tmod_lt' (x := s) (a := (xs.length : Int)) h0 (by omega)
  rw [if_pos m0, if_pos m1]
  have hd : Int.tdiv s (xs.length : Int) = s / (xs.length : Int) := Int.tdiv_eq_ediv_of_nonneg h0
  have hq0 : 0 ≤ s / (xs.length : Int) := Int.ediv_nonneg h0 (by omega)
  have hq1 : s / (xs.length : Int) ≤ s := Int.ediv_le_self _ h0
  obtain ⟨b0, b1⟩ := rd_byte hb m0 m1
  have e3 : wrap64 (Int.tdiv s (xs.length : Int)) = s / (xs.length : Int) := by rw [hd]; exact w64 (by omega)
  have e4 : wrap64 (s / (xs.length : Int) * 37) = s / (xs.length : Int) * 37 := w64 (by omega)
  have e5 : wrap64 (rd xs (Int.tmod s (xs.length : Int))) = rd xs (Int.tmod s (xs.length : Int)) := w64 (by omega)
  have e6 : wrap64 (rd xs (Int.tmod s (xs.length : Int)) + s / (xs.length : Int) * 37) = rd xs (Int.tmod s (xs.length : Int)) + s / (xs.length : Int) * 37 := w64 (by omega)
  simp only [e1, e2, e3, e4, e5, e6]
  by_cases g3 : a > 200
  · rw [if_pos g3]
    obtain ⟨n0, n1⟩ := tmod_lt' (x := s + 1) (a := (xs.length : Int)) (by omega) (by omega)
    rw [if_pos n0, if_pos n1, if_neg (by omega)]
    obtain ⟨c0, c1⟩ := rd_byte hb n0 n1
    have e7 : wrap64 (rd xs (Int.tmod (s + 1) (xs.length : Int))) = rd xs (Int.tmod (s + 1) (xs.length : Int)) := w64 (by omega)
    have e8 : wrap64 (rd xs (Int.tmod (s + 1) (xs.length : Int)) * 13) = rd xs (Int.tmod (s + 1) (xs.length : Int)) * 13 := w64 (by omega)
    have e9 : wrap64 ((rd xs (Int.tmod s (xs.length : Int)) + s / (xs.length : Int) * 37) * 251) = (rd xs (Int.tmod s (xs.length : Int)) + s / (xs.length : Int) * 37) * 251 := w64 (by omega)
    simp only [e7, e8, e9]
    refine ⟨_, rfl, fun h => tmod_lt' ?_ h⟩
    rw [w64 (x := (rd xs (Int.tmod s (xs.length : Int)) + s / (xs.length : Int) * 37) * 251 + rd xs (Int.tmod (s + 1) (xs.length : Int)) * 13) (by omega), w64 (by omega)]
    omega
  · rw [if_neg g3, if_neg (by omega)]
    exact ⟨_, rfl, fun h => tmod_lt' (by omega) h⟩
theorem pick_some {xs : List Int} (hb : Bs xs) {s : Int} (h0 : 0 ≤ s) (h1 : s ≤ 100000) (l : List Int) (hl : 1 ≤ l.length) : ∃ v : Int, spec_l1Pick.f xs s l = some (v, s + 1) := by
  obtain ⟨v, hv, hr⟩ := next_some hb h0 h1 (l.length : Int)
  obtain ⟨r0, r1⟩ := hr (by omega)
  unfold spec_l1Pick.f
  rw [hv]
  simp only [Option.bind_some]
  rw [if_pos r0, if_pos r1]
  exact ⟨_, rfl⟩


/-- Looking a letter up. -/
def look (p q r u v w c : Int) : Int := if p = c then u else if q = c then v else if r = c then w else 0
/-- The reference's answer, 0 for none. -/
def ans (p q r u v w c : Int) : Int := if 65 ≤ c ∧ c ≤ 90 then (if look p q r u v w (c + 32) = 0 then 0 else look p q r u v w (c + 32) - 32) else look p q r u v w c
/-- The program's. -/
def got (p q r u v w c : Int) : Int × Bool := if c = p then (u, true) else if c = p - 32 then (u - 32, true) else if c = q then (v, true) else if c = q - 32 then (v - 32, true) else if c = r then (w, true) else if c = r - 32 then (w - 32, true) else (0, false)
theorem some_ite {α : Type} (P : Prop) [Decidable P] (x y : α) : some (if P then x else y) = if P then some x else some y := by split <;> rfl
theorem in_s (x y z : Int) : spec_l1In.f x y z = some (decide (y ≤ x ∧ x ≤ z)) := by
  unfold spec_l1In.f
  split <;> (congr 1; simp_all) <;> omega
theorem in_i (x y z : Int) : impl_in.f x y z = some (decide (y ≤ x ∧ x ≤ z)) := by
  unfold impl_in.f
  split <;> (congr 1; simp_all) <;> omega
theorem spec_l (k : Nat) (c p q r u v w : Int) (s : ByteArray) (hs : s.size = 3) (h0 : wrap64 (bt s 0) = p) (h1 : wrap64 (bt s 1) = q) (h2 : wrap64 (bt s 2) = r) : spec_l8Compose.l0 (k + 4) c s [u, v, w] 0 = some (look p q r u v w c) := by
  have e1 : wrap64 1 = 1 := w64 (by omega)
  have e2 : wrap64 2 = 2 := w64 (by omega)
  have e3 : wrap64 3 = 3 := w64 (by omega)
  have r0 : rd [u, v, w] 0 = u := rfl
  have r1 : rd [u, v, w] 1 = v := rfl
  have r2 : rd [u, v, w] 2 = w := rfl
  unfold look
  simp [spec_l8Compose.l0, hs, h0, h1, h2, e1, e2, e3, r0, r1, r2]
  by_cases c1 : p = c <;> by_cases c2 : q = c <;> by_cases c3 : r = c <;> simp [c1, c2, c3]
theorem impl_l (k : Nat) (a c p q r u v w : Int) (t : List (List Int)) (ha0 : 0 ≤ a) (ha : a < (t.length : Int)) (ht : rd_L1 t a = [u, v, w]) (hp : 32 ≤ p ∧ p ≤ 255) (hq : 32 ≤ q ∧ q ≤ 255) (hr : 32 ≤ r ∧ r ≤ 255) (hu : 32 ≤ u ∧ u ≤ 255) (hv : 32 ≤ v ∧ v ≤ 255) (hw : 32 ≤ w ∧ w ≤ 255) :
    impl_composed.l0 (k + 4) a c t [p, q, r] 3 0 = some (got p q r u v w c) := by
  have e1 : wrap64 1 = 1 := w64 (by omega)
  have e2 : wrap64 2 = 2 := w64 (by omega)
  have e3 : wrap64 3 = 3 := w64 (by omega)
  have r0 : rd [u, v, w] 0 = u := rfl
  have r1 : rd [u, v, w] 1 = v := rfl
  have r2 : rd [u, v, w] 2 = w := rfl
  have t0 : rd [p, q, r] 0 = p := rfl
  have t1 : rd [p, q, r] 1 = q := rfl
  have t2 : rd [p, q, r] 2 = r := rfl
  have f0 : wrap64 p = p := w64 (by omega)
  have f1 : wrap64 q = q := w64 (by omega)
  have f2 : wrap64 r = r := w64 (by omega)
  have g0 : wrap64 (p - 32) = p - 32 := w64 (by omega)
  have g1 : wrap64 (q - 32) = q - 32 := w64 (by omega)
  have g2 : wrap64 (r - 32) = r - 32 := w64 (by omega)
  have h0 : wrap64 (u - 32) = u - 32 := w64 (by omega)
  have h1 : wrap64 (v - 32) = v - 32 := w64 (by omega)
  have h2 : wrap64 (w - 32) = w - 32 := w64 (by omega)
  unfold got
  simp [impl_composed.l0, ha0, ha, ht, e1, e2, e3, r0, r1, r2, t0, t1, t2, f0, f1, f2, g0, g1, g2, h0, h1, h2]
  simp only [some_ite]
theorem spec_f (k : Nat) (a c p q r u v w : Int) (s : ByteArray) (hc : 0 ≤ c ∧ c ≤ 65535) (ha0 : 0 ≤ a) (ha : a < 4) (hl : rdOf ByteArray.empty [(⟨#[]⟩ : ByteArray), (⟨#[97, 101, 111]⟩ : ByteArray), (⟨#[97, 101, 111]⟩ : ByteArray), (⟨#[97, 111, 117]⟩ : ByteArray)] a = s)
    (hv : rd_L1 [([] : List Int), [224, 232, 242], [225, 233, 243], [228, 246, 252]] a = [u, v, w]) (hu3 : 32 ≤ u ∧ u ≤ 255) (hv3 : 32 ≤ v ∧ v ≤ 255) (hw3 : 32 ≤ w ∧ w ≤ 255) (hs : s.size = 3) (h0 : wrap64 (bt s 0) = p) (h1 : wrap64 (bt s 1) = q) (h2 : wrap64 (bt s 2) = r) :
    spec_l8Compose.f (k + 6) a c = some (ans p q r u v w c) := by
  have low : ∀ (k : Nat) (c : Int), ¬ (65 ≤ c ∧ c ≤ 90) → spec_l8Compose.f (k + 5) a c = some (look p q r u v w c) := by
    intro k c hn
    unfold spec_l8Compose.f
    rw [in_s, decide_eq_false hn, Option.bind_some, if_neg (by decide), Option.bind_some, if_pos ha0, if_pos (by simp; omega), Option.bind_some, if_pos (by simp; omega), hl, hv, spec_l k c p q r u v w s hs h0 h1 h2]
  by_cases hn : 65 ≤ c ∧ c ≤ 90
  · unfold ans
    rw [if_pos hn]
    unfold spec_l8Compose.f
    rw [in_s, decide_eq_true hn, Option.bind_some, if_pos rfl, w64 (by omega), low k (c + 32) (by omega), Option.bind_some]
    have : look p q r u v w (c + 32) = 0 ∨ 32 ≤ look p q r u v w (c + 32) ∧ look p q r u v w (c + 32) ≤ 255 := by
      unfold look
      repeat' split
      all_goals omega
    by_cases hz : look p q r u v w (c + 32) = 0
    · rw [if_pos hz, if_pos hz]
    · rw [if_neg hz, if_neg hz, w64 (by omega)]
  · rw [low (k + 1) c hn]
    unfold ans
    rw [if_neg hn]
theorem same (p q r u v w c : Int) (hp : 97 ≤ p) (hq : p < q) (hr : q < r) (hz : r ≤ 122) (hu3 : 33 ≤ u) (hv3 : 33 ≤ v) (hw3 : 33 ≤ w) : got p q r u v w c = (ans p q r u v w c, decide (ans p q r u v w c ≠ 0)) := by
  unfold got ans look
  by_cases hn : 65 ≤ c ∧ c ≤ 90
  · rw [if_pos hn, if_neg (by omega)]
    by_cases c1 : c = p - 32
    · rw [if_pos c1, if_pos (show p = c + 32 by omega), if_neg (by omega), decide_eq_true (by omega)]
    · rw [if_neg c1, if_neg (show ¬ p = c + 32 by omega), if_neg (by omega)]
      by_cases c2 : c = q - 32
      · rw [if_pos c2, if_pos (show q = c + 32 by omega), if_neg (by omega), decide_eq_true (by omega)]
      · rw [if_neg c2, if_neg (show ¬ q = c + 32 by omega), if_neg (by omega)]
        by_cases c3 : c = r - 32
        · rw [if_pos c3, if_pos (show r = c + 32 by omega), if_neg (by omega), decide_eq_true (by omega)]
        · rw [if_neg c3, if_neg (show ¬ r = c + 32 by omega)]
          rfl
  · rw [if_neg hn]
    by_cases c1 : c = p
    · rw [if_pos c1, if_pos c1.symm, decide_eq_true (by omega)]
    · rw [if_neg c1, if_neg (show ¬ p = c by omega), if_neg (by omega)]
      by_cases c2 : c = q
      · rw [if_pos c2, if_pos c2.symm, decide_eq_true (by omega)]
      · rw [if_neg c2, if_neg (show ¬ q = c by omega), if_neg (by omega)]
        by_cases c3 : c = r
        · rw [if_pos c3, if_pos c3.symm, decide_eq_true (by omega)]
        · rw [if_neg c3, if_neg (show ¬ r = c by omega), if_neg (by omega)]
          rfl
theorem char_s (c : Int) : spec_l1Char.f c = some (decide (0 ≤ c ∧ c ≤ 55295 ∨ 57344 ≤ c ∧ c ≤ 65535)) := by
  unfold spec_l1Char.f
  rw [in_s, Option.bind_some]
  by_cases h : 0 ≤ c ∧ c ≤ 55295
  · rw [decide_eq_true h, if_pos rfl, decide_eq_true (Or.inl h)]
  · rw [decide_eq_false h, if_neg (by decide), in_s, Option.bind_some]
    congr 1
    exact decide_eq_decide.2 (by omega)
theorem char_i (c : Int) : impl_isChar.f c = some (decide (0 ≤ c ∧ c ≤ 55295 ∨ 57344 ≤ c ∧ c ≤ 65535)) := by
  unfold impl_isChar.f
  rw [in_i, Option.bind_some]
  by_cases h : 0 ≤ c ∧ c ≤ 65535
  · rw [decide_eq_true h, if_pos rfl, in_i, Option.bind_some, ← decide_not]
    congr 1
    exact decide_eq_decide.2 (by omega)
  · rw [decide_eq_false h, if_neg (by decide), decide_eq_false (by omega)]
/-- What the two functions answer at a right accent, in one word. -/
theorem both (a : Int) (ha : 1 ≤ a ∧ a ≤ 3) : ∃ g : Int → Int, (∀ (k : Nat) (c : Int), 0 ≤ c ∧ c ≤ 65535 → spec_l8Compose.f (k + 6) a c = some (g c) ∧ impl_composed.f (k + 4) a c = some (g c, decide (g c ≠ 0))) ∧
    (∀ c : Int, 0 ≤ c ∧ c ≤ 65535 → g c ≠ 0 → (128 ≤ g c ∧ g c ≤ 255) ∧ (c ≤ 122) ∧ (97 ≤ c ∧ c ≤ 122 → g (c - 32) = g c - 32 ∧ g (c - 32) ≠ 0)) := by
  obtain ⟨p, q, r, u, v, w, s, hl, hv, hb, hs, h0, h1, h2, h3⟩ : ∃ p q r u v w s, rdOf ByteArray.empty lets a = s ∧ rd_L1 accd a = [u, v, w] ∧ bytesOf s = [p, q, r] ∧ s.size = 3 ∧ bt s 0 = p ∧ bt s 1 = q ∧ bt s 2 = r ∧ (97 ≤ p ∧ p < q ∧ q < r ∧ r ≤ 122 ∧ (200 ≤ u ∧ u ≤ 255) ∧ (200 ≤ v ∧ v ≤ 255) ∧ (200 ≤ w ∧ w ≤ 255)) := by
    rcases (show a = 1 ∨ a = 2 ∨ a = 3 by omega) with rfl | rfl | rfl
    · exact ⟨97, 101, 111, 224, 232, 242, _, rfl, rfl, rfl, rfl, rfl, rfl, rfl, by decide⟩
    · exact ⟨97, 101, 111, 225, 233, 243, _, rfl, rfl, rfl, rfl, rfl, rfl, rfl, by decide⟩
    · exact ⟨97, 111, 117, 228, 246, 252, _, rfl, rfl, rfl, rfl, rfl, rfl, rfl, by decide⟩
  refine ⟨ans p q r u v w, fun k c hc => ⟨spec_f k a c p q r u v w s hc (by omega) (by omega) hl hv (by omega) (by omega) (by omega) hs (by rw [h0, w64 (by omega)]) (by rw [h1, w64 (by omega)]) (by rw [h2, w64 (by omega)]), ?_⟩, ?_⟩
  · unfold impl_composed.f
    rw [if_pos (by omega), if_pos (by omega), hl, hb]
    rw [← same p q r u v w c (by omega) (by omega) (by omega) (by omega) (by omega) (by omega) (by omega)]
    exact impl_l k a c p q r u v w accd (by omega) (show a < 4 by omega) hv (by omega) (by omega) (by omega) (by omega) (by omega) (by omega)
  · intro c hc hz
    have lk : ∀ c, look p q r u v w c = 0 ∨ (200 ≤ look p q r u v w c ∧ look p q r u v w c ≤ 255 ∧ 97 ≤ c ∧ c ≤ 122) := by
      intro c
      unfold look
      repeat' split
      all_goals omega
    by_cases hn : 65 ≤ c ∧ c ≤ 90
    · have e : ans p q r u v w c = look p q r u v w (c + 32) - 32 ∧ look p q r u v w (c + 32) ≠ 0 := by
        unfold ans at hz ⊢
        rw [if_pos hn] at hz ⊢
        by_cases h : look p q r u v w (c + 32) = 0
        · rw [if_pos h] at hz
          exact absurd rfl hz
        · rw [if_neg h]
          exact ⟨rfl, h⟩
      rcases lk (c + 32) with h | h
      · exact absurd h e.2
      · rw [e.1]
        exact ⟨by omega, by omega, fun h2 => by omega⟩
    · have e : ans p q r u v w c = look p q r u v w c := by
        unfold ans
        rw [if_neg hn]
      rw [e] at hz ⊢
      rcases lk c with h | h
      · exact absurd h hz
      · refine ⟨by omega, by omega, fun h2 => ?_⟩
        have e2 : ans p q r u v w (c - 32) = look p q r u v w c - 32 := by
          unfold ans
          rw [if_pos (by omega), show c - 32 + 32 = c by omega, if_neg hz]
        rw [e2]
        exact ⟨rfl, by omega⟩
/-- The two answers are the same, and what a good one is. -/
theorem compose_same (a : Int) : ∃ g : Int → Int × Int, (∀ (k : Nat) (c : Int), spec_ComposeChar.f (k + 7) a c = some (g c) ∧ impl_ComposeChar.f (k + 7) a c = some (g c)) ∧
    (∀ c : Int, (g c).1 = 0 → (128 ≤ (g c).2 ∧ (g c).2 ≤ 255) ∧ (0 ≤ c ∧ c ≤ 122) ∧ (97 ≤ c ∧ c ≤ 122 → g (c - 32) = (0, (g c).2 - 32))) := by
  by_cases ha : 1 ≤ a ∧ a ≤ 3
  · obtain ⟨g, hg, hr⟩ := both a ha
    refine ⟨fun c => if 0 ≤ c ∧ c ≤ 55295 ∨ 57344 ≤ c ∧ c ≤ 65535 then (if g c = 0 then (4, 0) else (0, g c)) else (3, 0), fun k c => ?_, fun c => ?_⟩
    · unfold spec_ComposeChar.f impl_ComposeChar.f
      rw [in_s, in_i, char_s, char_i]
      simp only [Option.bind_some, decide_eq_true ha, if_true]
      by_cases hc : 0 ≤ c ∧ c ≤ 55295 ∨ 57344 ≤ c ∧ c ≤ 65535
      · obtain ⟨hx, hy⟩ := hg k c (by omega)
        have hy' : impl_composed.f (k + 6) a c = some (g c, decide (g c ≠ 0)) := impl_composed.mono _ _ _ _ (impl_composed.mono _ _ _ _ hy)
        simp only [decide_eq_true hc, Bool.not_true, spec_ComposeChar.j0, impl_ComposeChar.j0, Bool.false_eq_true, if_false, hx, hy', Option.bind_some, impl_unless.f]
        rw [if_pos hc]
        by_cases hz : g c = 0
        · simp [hz]
        · simp [hz]
      · simp only [decide_eq_false hc, Bool.not_false, spec_ComposeChar.j0, impl_ComposeChar.j0, if_true]
        rw [if_neg hc]
        first | exact ⟨rfl, rfl⟩ | simp
    · intro h0
      by_cases hc : 0 ≤ c ∧ c ≤ 55295 ∨ 57344 ≤ c ∧ c ≤ 65535
      · simp only [if_pos hc] at h0 ⊢
        by_cases hz : g c = 0
        · simp only [if_pos hz] at h0
          cases h0
        · simp only [if_neg hz]
          obtain ⟨h1, h2, h3⟩ := hr c (by omega) hz
          refine ⟨h1, by omega, fun h4 => ?_⟩
          rw [if_pos (by omega), if_neg (h3 h4).2, (h3 h4).1]
      · simp only [if_neg hc] at h0
        cases h0
  · refine ⟨fun _ => (3, 0), fun k c => ?_, fun c h => by cases h⟩
    unfold spec_ComposeChar.f impl_ComposeChar.f
    rw [in_s, in_i]
    simp only [Option.bind_some, decide_eq_false ha, Bool.false_eq_true, if_false, spec_ComposeChar.j0, impl_ComposeChar.j0, if_true]
    first | exact And.intro rfl rfl | rfl | simp
theorem accent_same (a : Int) : ∃ y, impl_AccentChar.f a = some y ∧ spec_AccentChar.f a = some y := by
  unfold spec_AccentChar.f impl_AccentChar.f
  rw [in_s, in_i, Option.bind_some, Option.bind_some]
  by_cases h : 1 ≤ a ∧ a ≤ 3
  · have h0 : 0 ≤ a := by omega
    have h1 : a < (([0, 96, 39, 34] : List Int).length : Int) := by simp; omega
    rw [decide_eq_true h, if_pos rfl, if_pos h0, if_pos h1]
    first | exact ⟨_, rfl, rfl⟩ | exact ⟨_, rfl⟩ | exact ⟨_, Eq.refl _⟩
  · rw [decide_eq_false h, if_neg (by decide)]
    first | exact ⟨_, rfl, rfl⟩ | exact ⟨_, rfl⟩ | exact ⟨_, Eq.refl _⟩
theorem drawC_some {xs : List Int} (hb : Bs xs) : ∃ (a c : Int), spec_DrawComposeChar.f xs = some (a, c) := by
  unfold spec_DrawComposeChar.f spec_l1Source.f
  simp only [Option.bind_some]
  obtain ⟨v, hv⟩ := pick_some hb (s := 0) (by omega) (by omega) [1, 2, 3, 0, 4] (by simp)
  rw [hv]
  simp only [Option.bind_some]
  obtain ⟨u, hu⟩ := pick_some hb (s := 0 + 1) (by omega) (by omega) [97, 101, 111, 117, 65, 85, 120, 55296] (by simp)
  rw [hu]
  exact ⟨_, _, rfl⟩
theorem drawA_some {xs : List Int} (hb : Bs xs) : ∃ a : Int, spec_DrawAccentChar.f xs = some a := by
  unfold spec_DrawAccentChar.f spec_l1Source.f
  simp only [Option.bind_some]
  obtain ⟨v, hv, _⟩ := next_some hb (s := 0) (by omega) (by omega) 5
  rw [hv]
  exact ⟨_, rfl⟩
theorem encode_some (x : Int) (h : 128 ≤ x ∧ x ≤ 255) : ∃ l, impl_EncodeChar.f x = some (0, l) := by
  unfold impl_EncodeChar.f
  rw [char_i, decide_eq_true (by omega), Option.bind_some, if_pos rfl]
  unfold impl_encode.f
  rw [if_neg (by omega), if_pos (by omega)]
  exact ⟨_, rfl⟩
theorem FnAccents (xs : List Int) (_hm : xs.length ≤ maxLen) (_hb : xs.length * 1 ≤ 140737488351232) (hw : ∀ x ∈ xs, (Lit.int .u8 x).wf = true) : ∃ k, laws_FnAccents.f k xs = some true := by
  refine ⟨7, ?_⟩
  unfold laws_FnAccents.f laws_lwBig.f
  simp only [Option.bind_some, decide_eq_true_eq]
  by_cases hbig : (xs.length : Int) > 1048576
  · rw [if_pos hbig]
  rw [if_neg hbig]
  have hB : Bs xs := ⟨by omega, fun y hy => wf_u8 (hw y hy)⟩
  obtain ⟨a, c, h1⟩ := drawC_some hB
  obtain ⟨n, h2⟩ := drawA_some hB
  obtain ⟨g, hg, hr⟩ := compose_same a
  obtain ⟨y, h3, h4⟩ := accent_same n
  obtain ⟨s0, i0⟩ := hg 0 c
  rw [h1, h2]
  simp only [Option.bind_some]
  rw [h3, h4]
  simp only [Option.bind_some]
  rw [show impl_ComposeChar.f 7 a c = some (g c) from i0, show spec_ComposeChar.f 7 a c = some (g c) from s0, show impl_ComposeChar.f 7 a (wrap64 (c - 32)) = some (g (wrap64 (c - 32))) from (hg 0 _).2]
  simp only [Option.bind_some, if_true]
  by_cases hz : (g c).1 = 0
  · obtain ⟨hv, hc, hl⟩ := hr c hz
    obtain ⟨l, he⟩ := encode_some _ hv
    rw [if_pos hz, he]
    simp only [Option.bind_some, if_true, hz, if_pos (show (g c).2 > 127 by omega)]
    by_cases h97 : c ≥ 97
    · rw [if_pos h97, if_pos hc.2]
      have e1 : wrap64 (c - 32) = c - 32 := w64 (by omega)
      have e2 : wrap64 (c - (c - 32)) = 32 := by rw [w64 (by omega)]; omega
      have e3 : wrap64 ((g c).2 - 32) = (g c).2 - 32 := w64 (by omega)
      rw [e1, e2, e3, hl ⟨by omega, hc.2⟩]
      simp
    · rw [if_neg h97]
      have e1 : wrap64 (c - c) = 0 := by rw [Int.sub_self, w64 (by omega)]
      have e2 : wrap64 ((g c).2 - 0) = (g c).2 := by rw [Int.sub_zero, w64 (by omega)]
      rw [e1, e2]
      simp
  · rw [if_neg hz]
    simp

end Go.Proofs.YtpoafgokngpglaaDoor.Pure
