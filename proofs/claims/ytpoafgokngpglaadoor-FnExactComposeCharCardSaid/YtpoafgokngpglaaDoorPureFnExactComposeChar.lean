/- ComposeChar: for every two numbers the program's answer is the reference's: letters and letters with accents are read off the package's tables, of which the row tells what they hold. No condition. -/
import Derived.Test.YtpoafgokngpglaaDoorPFnExactComposeCharx2
import Derived.Test.YtpoafgokngpglaaDoorPlain
namespace Go.Proofs.YtpoafgokngpglaaDoor.Pure
open Go Go.RowKit Go.Proofs.YtpoafgokngpglaaDoor.PFnExactComposeChar Go.Proofs.YtpoafgokngpglaaDoorW.PrintWords Go.Proofs.YtpoafgokngpglaaDoorCm Go.Proofs.YtpoafgokngpglaaDoorPlain

/-- Looking a letter up. -/
def look (p q r u v w c : Int) : Int := if p = c then u else if q = c then v else if r = c then w else 0
/-- The reference's answer, 0 for none. -/
def ans (p q r u v w c : Int) : Int := if 65 ≤ c ∧ c ≤ 90 then (if look p q r u v w (c + 32) = 0 then 0 else look p q r u v w (c + 32) - 32) else look p q r u v w c
/-- The program's. -/
def got (p q r u v w c : Int) : Int × Bool := if c = p then (u, true) else if c = p - 32 then (u - 32, true) else if c = q then (v, true) else if c = q - 32 then (v - 32, true) else if c = r then (w, true) else if c = r - 32 then (w - 32, true) else (0, false)
theorem some_ite {α : Type} (P : Prop) [Decidable P] (x y : α) : some (if P then x else y) = if P then some x else some y := by split <;> rfl
theorem in_s (x y z : Int) : spec_l1In.f x y z = some (decide (y ≤ x ∧ x ≤ z)) := by
  unfold spec_l1In.f
  split <;> (congr 1; simp_all) <;> omega
theorem in_i (x y z : Int) : impl_in.f x y z = some (decide (y ≤ x ∧ x ≤ z)) := by
  unfold impl_in.f
  split <;> (congr 1; simp_all) <;> omega
theorem spec_l (k : Nat) (c p q r u v w : Int) (s : ByteArray) (hs : s.size = 3) (h0 : wrap64 (bt s 0) = p) (h1 : wrap64 (bt s 1) = q) (h2 : wrap64 (bt s 2) = r) : spec_l8Compose.l0 (k + 4) c s [u, v, w] 0 = some (look p q r u v w c) := by
  have e1 : wrap64 1 = 1 := w64 (by omega)
  have e2 : wrap64 2 = 2 := w64 (by omega)
  have e3 : wrap64 3 = 3 := w64 (by omega)
  have r0 : rd [u, v, w] 0 = u := rfl
  have r1 : rd [u, v, w] 1 = v := rfl
  have r2 : rd [u, v, w] 2 = w := rfl
  unfold look
  simp [spec_l8Compose.l0, hs, h0, h1, h2, e1, e2, e3, r0, r1, r2]
  by_cases c1 : p = c <;> by_cases c2 : q = c <;> by_cases c3 : r = c <;> simp [c1, c2, c3]
theorem impl_l (k : Nat) (a c p q r u v w : Int) (t : List (List Int)) (ha0 : 0 ≤ a) (ha : a < (t.length : Int)) (ht : rd_L1 t a = [u, v, w]) (hp : 32 ≤ p ∧ p ≤ 255) (hq : 32 ≤ q ∧ q ≤ 255) (hr : 32 ≤ r ∧ r ≤ 255) (hu : 32 ≤ u ∧ u ≤ 255) (hv : 32 ≤ v ∧ v ≤ 255) (hw : 32 ≤ w ∧ w ≤ 255) :
    impl_composed.l0 (k + 4) a c t [p, q, r] 3 0 = some (got p q r u v w c) := by
  have e1 : wrap64 1 = 1 := w64 (by omega)
  have e2 : wrap64 2 = 2 := w64 (by omega)
  have e3 : wrap64 3 = 3 := w64 (by omega)
  have r0 : rd [u, v, w] 0 = u := rfl
  have r1 : rd [u, v, w] 1 = v := rfl
  have r2 : rd [u, v, w] 2 = w := rfl
  have t0 : rd [p, q, r] 0 = p := rfl
  have t1 : rd [p, q, r] 1 = q := rfl
  have t2 : rd [p, q, r] 2 = r := rfl
  have f0 : wrap64 p = p := w64 (by omega)
  have f1 : wrap64 q = q := w64 (by omega)
  have f2 : wrap64 r = r := w64 (by omega)
  have g0 : wrap64 (p - 32) = p - 32 := w64 (by omega)
  have g1 : wrap64 (q - 32) = q - 32 := w64 (by omega)
  have g2 : wrap64 (r - 32) = r - 32 := w64 (by omega)
  have h0 : wrap64 (u - 32) = u - 32 := w64 (by omega)
  have h1 : wrap64 (v - 32) = v - 32 := w64 (by omega)
  have h2 : wrap64 (w - 32) = w - 32 := w64 (by omega)
  unfold got
  simp [impl_composed.l0, ha0, ha, ht, e1, e2, e3, r0, r1, r2, t0, t1, t2, f0, f1, f2, g0, g1, g2, h0, h1, h2]
  simp only [some_ite]
theorem spec_f (k : Nat) (a c p q r u v w : Int) (s : ByteArray) (hc : 0 ≤ c ∧ c ≤ 65535) (ha0 : 0 ≤ a) (ha : a < 4) (hl : rdOf ByteArray.empty [(⟨#[]⟩ : ByteArray), (⟨#[97, 101, 111]⟩ : ByteArray), (⟨#[97, 101, 111]⟩ : ByteArray), (⟨#[97, 111, 117]⟩ : ByteArray)] a = s)
    (hv : rd_L1 [([] : List Int), [224, 232, 242], [225, 233, 243], [228, 246, 252]] a = [u, v, w]) (hu3 : 32 ≤ u ∧ u ≤ 255) (hv3 : 32 ≤ v ∧ v ≤ 255) (hw3 : 32 ≤ w ∧ w ≤ 255) (hs : s.size = 3) (h0 : wrap64 (bt s 0) = p) (h1 : wrap64 (bt s 1) = q) (h2 : wrap64 (bt s 2) = r) :
    spec_l8Compose.f (k + 6) a c = some (ans p q r u v w c) := by
  have low : ∀ (k : Nat) (c : Int), ¬ (65 ≤ c ∧ c ≤ 90) → spec_l8Compose.f (k + 5) a c = some (look p q r u v w c) := by
    intro k c hn
    unfold spec_l8Compose.f
    rw [in_s, decide_eq_false hn, Option.bind_some, if_neg (by decide), Option.bind_some, if_pos ha0, if_pos (by simp; omega), Option.bind_some, if_pos (by simp; omega), hl, hv, spec_l k c p q r u v w s hs h0 h1 h2]
  by_cases hn : 65 ≤ c ∧ c ≤ 90
  · unfold ans
    rw [if_pos hn]
    unfold spec_l8Compose.f
    rw [in_s, decide_eq_true hn, Option.bind_some, if_pos rfl, w64 (by omega), low k (c + 32) (by omega), Option.bind_some]
    have : look p q r u v w (c + 32) = 0 ∨ 32 ≤ look p q r u v w (c + 32) ∧ look p q r u v w (c + 32) ≤ 255 := by
      unfold look
      repeat' split
      all_goals omega
    by_cases hz : look p q r u v w (c + 32) = 0
    · rw [if_pos hz, if_pos hz]
    · rw [if_neg hz, if_neg hz, w64 (by omega)]
  · rw [low (k + 1) c hn]
    unfold ans
    rw [if_neg hn]
theorem same (p q r u v w c : Int) (hp : 97 ≤ p) (hq : p < q) (hr : q < r) (hz : r ≤ 122) (hu3 : 33 ≤ u) (hv3 : 33 ≤ v) (hw3 : 33 ≤ w) : got p q r u v w c = (ans p q r u v w c, decide (ans p q r u v w c ≠ 0)) := by
  unfold got ans look
  by_cases hn : 65 ≤ c ∧ c ≤ 90
  · rw [if_pos hn, if_neg (by omega)]
    by_cases c1 : c = p - 32
    · rw [if_pos c1, if_pos (show p = c + 32 by omega), if_neg (by omega), decide_eq_true (by omega)]
    · rw [if_neg c1, if_neg (show ¬ p = c + 32 by omega), if_neg (by omega)]
      by_cases c2 : c = q - 32
      · rw [if_pos c2, if_pos (show q = c + 32 by omega), if_neg (by omega), decide_eq_true (by omega)]
      · rw [if_neg c2, if_neg (show ¬ q = c + 32 by omega), if_neg (by omega)]
        by_cases c3 : c = r - 32
        · rw [if_pos c3, if_pos (show r = c + 32 by omega), if_neg (by omega), decide_eq_true (by omega)]
        · rw [if_neg c3, if_neg (show ¬ r = c + 32 by omega)]
          rfl
  · rw [if_neg hn]
    by_cases c1 : c = p
    · rw [if_pos c1, if_pos c1.symm, decide_eq_true (by omega)]
    · rw [if_neg c1, if_neg (show ¬ p = c by omega), if_neg (by omega)]
      by_cases c2 : c = q
      · rw [if_pos c2, if_pos c2.symm, decide_eq_true (by omega)]
      · rw [if_neg c2, if_neg (show ¬ q = c by omega), if_neg (by omega)]
        by_cases c3 : c = r
        · rw [if_pos c3, if_pos c3.symm, decide_eq_true (by omega)]
        · rw [if_neg c3, if_neg (show ¬ r = c by omega), if_neg (by omega)]
          rfl
/-- What the two functions answer at a right accent, in one word. -/
theorem both (k : Nat) (a c : Int) (ha : 1 ≤ a ∧ a ≤ 3) (hc : 0 ≤ c ∧ c ≤ 65535) : ∃ x, spec_l8Compose.f (k + 6) a c = some x ∧ impl_composed.f (k + 4) a c = some (x, decide (x ≠ 0)) := by
  obtain ⟨p, q, r, u, v, w, s, hl, hv, hb, hs, h0, h1, h2, h3⟩ : ∃ p q r u v w s, rdOf ByteArray.empty lets a = s ∧ rd_L1 accd a = [u, v, w] ∧ bytesOf s = [p, q, r] ∧ s.size = 3 ∧ bt s 0 = p ∧ bt s 1 = q ∧ bt s 2 = r ∧ (97 ≤ p ∧ p < q ∧ q < r ∧ r ≤ 122 ∧ (33 ≤ u ∧ u ≤ 255) ∧ (33 ≤ v ∧ v ≤ 255) ∧ (33 ≤ w ∧ w ≤ 255)) := by
    rcases (show a = 1 ∨ a = 2 ∨ a = 3 by omega) with rfl | rfl | rfl
    · exact ⟨97, 101, 111, 224, 232, 242, _, rfl, rfl, rfl, rfl, rfl, rfl, rfl, by decide⟩
    · exact ⟨97, 101, 111, 225, 233, 243, _, rfl, rfl, rfl, rfl, rfl, rfl, rfl, by decide⟩
    · exact ⟨97, 111, 117, 228, 246, 252, _, rfl, rfl, rfl, rfl, rfl, rfl, rfl, by decide⟩
  refine ⟨ans p q r u v w c, spec_f k a c p q r u v w s hc (by omega) (by omega) hl hv (by omega) (by omega) (by omega) hs (by rw [h0, w64 (by omega)]) (by rw [h1, w64 (by omega)]) (by rw [h2, w64 (by omega)]), ?_⟩
  unfold impl_composed.f
  rw [if_pos (by omega), if_pos (by omega), hl, hb]
  rw [← same p q r u v w c (by omega) (by omega) (by omega) (by omega) (by omega) (by omega) (by omega)]
  exact impl_l k a c p q r u v w accd (by omega) (show a < 4 by omega) hv (by omega) (by omega) (by omega) (by omega) (by omega) (by omega)
/-- The two answers are the same. -/
theorem compose_same (k : Nat) (a c : Int) : ∃ y, spec_ComposeChar.f (k + 7) a c = some y ∧ impl_ComposeChar.f (k + 7) a c = some y ∧ (y.1 = 0 → (1 ≤ a ∧ a ≤ 3) ∧ (0 ≤ c ∧ c ≤ 65535)) := by
  have ec : spec_l1Char.f c = some (decide (0 ≤ c ∧ c ≤ 55295 ∨ 57344 ≤ c ∧ c ≤ 65535)) := by
    unfold spec_l1Char.f
    rw [in_s, Option.bind_some]
    by_cases h : 0 ≤ c ∧ c ≤ 55295
    · rw [decide_eq_true h, if_pos rfl, decide_eq_true (Or.inl h)]
    · rw [decide_eq_false h, if_neg (by decide), in_s, Option.bind_some]
      congr 1
      exact decide_eq_decide.2 (by omega)
  have ei : impl_isChar.f c = some (decide (0 ≤ c ∧ c ≤ 55295 ∨ 57344 ≤ c ∧ c ≤ 65535)) := by
    unfold impl_isChar.f
    rw [in_i, Option.bind_some]
    by_cases h : 0 ≤ c ∧ c ≤ 65535
    · rw [decide_eq_true h, if_pos rfl, in_i, Option.bind_some, ← decide_not]
      congr 1
      exact decide_eq_decide.2 (by omega)
    · rw [decide_eq_false h, if_neg (by decide), decide_eq_false (by omega)]
  unfold spec_ComposeChar.f impl_ComposeChar.f
  rw [in_s, in_i, ec, ei]
  simp only [Option.bind_some]
  by_cases ha : 1 ≤ a ∧ a ≤ 3
  · simp only [decide_eq_true ha, if_true]
    by_cases hc : 0 ≤ c ∧ c ≤ 55295 ∨ 57344 ≤ c ∧ c ≤ 65535
    · obtain ⟨x, hx, hy⟩ := both k a c ha (by omega)
      have hy' : impl_composed.f (k + 6) a c = some (x, decide (x ≠ 0)) := impl_composed.mono _ _ _ _ (impl_composed.mono _ _ _ _ hy)
      simp only [decide_eq_true hc, Bool.not_true, spec_ComposeChar.j0, impl_ComposeChar.j0, Bool.false_eq_true, if_false, hx, hy', Option.bind_some, impl_unless.f]
      by_cases hz : x = 0
      · subst hz
        exact ⟨(4, 0), rfl, rfl, fun h => by cases h⟩
      · simp only [hz, if_false, ne_eq, not_false_eq_true, decide_true, if_true, Option.bind_some]
        exact ⟨(0, x), rfl, rfl, fun _ => ⟨ha, by omega⟩⟩
    · simp only [decide_eq_false hc, Bool.not_false, spec_ComposeChar.j0, impl_ComposeChar.j0, if_true]
      exact ⟨(3, 0), rfl, rfl, fun h => by cases h⟩
  · simp only [decide_eq_false ha, Bool.false_eq_true, if_false, spec_ComposeChar.j0, impl_ComposeChar.j0, if_true]
    exact ⟨(3, 0), rfl, rfl, fun h => by cases h⟩
theorem FnExactComposeChar (a c : Int) : laws_FnExactComposeChar.f 7 a c = some true := by
  obtain ⟨y, h1, h2, _⟩ := compose_same 0 a c
  unfold laws_FnExactComposeChar.f laws_eqIntResult.f
  rw [h1, h2]
  simp

end Go.Proofs.YtpoafgokngpglaaDoor.Pure
