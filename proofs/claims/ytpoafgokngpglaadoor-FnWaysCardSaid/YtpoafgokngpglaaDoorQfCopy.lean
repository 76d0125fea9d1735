/- Laws on 'copy' of elements of several cells: what it does to a block's cells. -/
import Derived.Test.YtpoafgokngpglaaDoorQfWords
import Derived.Laws.IdiomCopy
namespace Go.Proofs.YtpoafgokngpglaaDoorCopy
open Go Go.RowKit Go.Proofs.YtpoafgokngpglaaDoorW.PrintWords
set_option linter.unusedVariables false
/-- A block's cells, a stretch of them written over. -/
def over (cur : Array Value) : Nat → List Value → Array Value
  | _, [] => cur
  | o, v :: r => over (cur.setIfInBounds o v) (o + 1) r
theorem over_size : ∀ (vs : List Value) (cur : Array Value) (o : Nat), (over cur o vs).size = cur.size
  | [], _, _ => rfl
  | v :: r, cur, o => by rw [over, over_size r]; simp
theorem over_toList : ∀ (vs : List Value) (cur : Array Value) (o : Nat), o + vs.length ≤ cur.size → (over cur o vs).toList = cur.toList.take o ++ vs ++ cur.toList.drop (o + vs.length)
  | [], cur, o, h => by simp [over]
  | v :: r, cur, o, h => by
    have hl : (v :: r).length = r.length + 1 := rfl
    rw [hl] at h
    rw [over, over_toList r _ (o + 1) (by simp; omega), Array.toList_setIfInBounds]
    have ho : o < cur.toList.length := by simp; omega
    rw [List.take_succ_eq_append_getElem (by rw [List.length_set]; exact ho), List.take_set_of_le (Nat.le_refl _), List.getElem_set_self, List.drop_set_of_lt (by omega), hl]
    simp [Nat.add_assoc, Nat.add_comm 1]
theorem heap_over {g e : Nat} {f : Nat × Nat} : ∀ (vs : List Value) (w : World) (cur : Array Value) (o : Nat), w.heap[g]? = some (.cells cur e f) → (w.setCells g o vs).heap[g]? = some (.cells (over cur o vs) e f)
  | [], _, _, _, h => h
  | v :: r, w, cur, o, h => heap_over r _ _ (o + 1) (by simp [World.setCell, Array.getElem?_modify, h])
theorem heap_other {g : Nat} (k : Nat) (hk : k ≠ g) : ∀ (vs : List Value) (w : World) (o : Nat), (w.setCells g o vs).heap[k]? = w.heap[k]?
  | [], _, _ => rfl
  | v :: r, w, o => (heap_other k hk r _ (o + 1)).trans (Below.heap_setCell w ⟨g, o, none⟩ v k hk)
theorem below_over {B g : Nat} {a : World} (hg : B ≤ g) : ∀ (vs : List Value) (w : World) (o : Nat), Below B a w → Below B a (w.setCells g o vs)
  | [], _, _, h => h
  | v :: r, w, o, h => below_over hg r _ (o + 1) (h.setCell hg v)
/-- m copies of two cells. -/
def rowOf (x y : Int) (m : Nat) : List Value := (List.replicate m [Value.int .i64 x, Value.int .i64 y]).flatten
theorem rowOf_len (x y : Int) (m : Nat) : (rowOf x y m).length = m * 2 := by
  unfold rowOf
  induction m with
  | zero => rfl
  | succ m ih => rw [List.replicate_succ, List.flatten_cons, List.length_append, ih]; simp; omega
theorem rowOf_add (x y : Int) (m j : Nat) : rowOf x y (m + j) = rowOf x y m ++ rowOf x y j := by
  unfold rowOf
  rw [← List.flatten_append, List.replicate_append_replicate]
theorem rowOf_one (x y : Int) (m : Nat) : ∀ v ∈ rowOf x y m, v.oneCell' = true := by
  intro v hv
  unfold rowOf at hv
  rw [List.mem_flatten] at hv
  obtain ⟨l, hl, hv⟩ := hv
  rw [List.eq_of_mem_replicate hl] at hv
  simp at hv
  rcases hv with rfl | rfl <;> rfl
theorem rowOf_take (x y : Int) (m j : Nat) (h : j ≤ m) : (rowOf x y m).take (j * 2) = rowOf x y j := by
  obtain ⟨d, rfl⟩ : ∃ d, m = j + d := ⟨m - j, by omega⟩
  rw [rowOf_add, List.take_left' (rowOf_len x y j)]
/-- A block whose first m elements are copies of one. -/
def St (e g cap : Nat) (x y : Int) (m : Nat) (w : World) : Prop := ∃ cur : Array Value, w.heap[g]? = some (.cells cur e (0, 0)) ∧ cur.size = cap * 2 ∧ cur.toList.take (m * 2) = rowOf x y m
theorem St_copy {e g cap m j : Nat} {x y : Int} {w : World} (h : St e g cap x y m w) (hc : m + j ≤ cap) : St e g cap x y (m + j) (w.setCells g (m * 2) (rowOf x y j)) := by
  obtain ⟨cur, h1, h2, h3⟩ := h
  refine ⟨over cur (m * 2) (rowOf x y j), heap_over _ _ _ _ h1, by rw [over_size]; exact h2, ?_⟩
  rw [over_toList _ _ _ (by rw [rowOf_len]; omega), h3, rowOf_add, List.take_left' (by rw [List.length_append, rowOf_len, rowOf_len]; omega)]
/-- All is read before anything is written. -/
theorem run_copy {P : Program} (w : World) (dT sT ty elem : TypeId) (size b o dLen dCap : Nat) (a : Addr) (sLen sCap : Nat) (cs : List Value)
    (hu : P.underlying dT = some (.slice elem)) (hs : (P.info? elem).map (·.size) = some size) (hn : cs.length = Nat.min sLen dLen * size)
    (hsrc : ∀ j v, cs[j]? = some v → w.cell? (a.add j) = some v) (hc : ∀ j, j < cs.length → (w.cell? ⟨b, o + j, none⟩).isSome = true) (hf : ∀ j, j < cs.length → w.frozen? ⟨b, o + j, none⟩ = false) (h1 : ∀ v ∈ cs, v.oneCell' = true) :
    (Builtin.copy_ #[dT, sT] ty #[.slice (some ⟨b, o, none⟩) dLen dCap, .slice (some a) sLen sCap]).run P w = .ok (goInt (Nat.min sLen dLen)) (w.setCells b o cs) := by
  have hl := run_loadCells_list (P := P) w a cs hsrc
  have hst := run_storeCells_cells (P := P) b o cs 0 w (by simpa using hc) (by simpa using hf) h1
  cases hq : P.info? elem with
  | none => simp [hq] at hs
  | some i =>
    have hi : i.size = size := by simpa [hq] using hs
    simp [Builtin.copy_, run_underlying hu, Builtin.lenOf, Builtin.firstCells, sizeOf, typeInfo, hq, hi, ← hn, hl, hst]
theorem St_cell {e g cap m : Nat} {x y : Int} {w : World} (h : St e g cap x y m w) (i : Nat) (v : Value) (hi : (rowOf x y m)[i]? = some v) : w.cell? ⟨g, i, none⟩ = some v := by
  obtain ⟨cur, h1, h2, h3⟩ := h
  rw [← h3] at hi
  have hi' : cur.toList[i]? = some v := by
    rw [List.getElem?_take] at hi
    split at hi
    · exact hi
    · cases hi
  simp [World.cell?, h1]
  simpa using hi'
/-- The copy of a round: as many as are there, or as are wanted. -/
theorem St_round {P : Program} {t e g cap m n ty : Nat} {x y : Int} {w : World} (hu : P.underlying t = some (.slice e)) (hs : (P.info? e).map (·.size) = some 2) (h : St e g cap x y m w) (hm : m < n) (hn : n ≤ cap) (c2 : Nat) :
    (Builtin.copy_ #[t, t] ty #[.slice (some ⟨g, m * 2, none⟩) (n - m) c2, .slice (some ⟨g, 0, none⟩) m cap]).run P w = .ok (goInt (Nat.min m (n - m))) (w.setCells g (m * 2) (rowOf x y (Nat.min m (n - m)))) := by
  have hj : Nat.min m (n - m) ≤ m := Nat.min_le_left _ _
  have hj2 : Nat.min m (n - m) ≤ n - m := Nat.min_le_right _ _
  obtain ⟨cur, h1, h2, h3⟩ := h
  refine run_copy w t t ty e 2 g (m * 2) (n - m) c2 ⟨g, 0, none⟩ m cap _ hu hs (rowOf_len _ _ _) (fun i v hv => ?_) (fun i hi => ?_) (fun i hi => blk_frozen h1 _) (rowOf_one _ _ _)
  · have := St_cell ⟨cur, h1, h2, h3⟩ i v (by
      rw [← rowOf_take x y m _ hj] at hv
      rw [List.getElem?_take] at hv
      split at hv
      · exact hv
      · cases hv)
    have e0 : (⟨g, 0, none⟩ : Addr).add i = ⟨g, i, none⟩ := by
      unfold Addr.add
      split <;> simp_all
    rw [e0]
    exact this
  · rw [rowOf_len] at hi
    simp [World.cell?, h1]
    omega
/-- What a row of the call's own is over. -/
theorem R_open {α : Type} {d : Kd α} {e g n c base : Nat} {w : World} {ok : Nat → Prop} {xs : List α} (h : d.R e w base ok (.slice (some ⟨g, 0, none⟩) n c) xs) : ∃ cur : Array Value, w.heap[g]? = some (.cells cur e (0, 0)) ∧ cur.size = c * d.sz ∧ xs.length ≤ c ∧ c ≤ maxLen ∧ base ≤ g ∧ ok g := by
  obtain ⟨h0, inner, ⟨_, h2⟩, _⟩ := h
  rcases h2 with ⟨e0, _⟩ | ⟨g', cap, cur, e0, hb, hh, r1, r2, r3, r4⟩
  · cases e0
  · injection e0 with e1 e2 e3
    injection e1 with e1
    injection e1 with e1
    subst e1 e3
    exact ⟨cur, hh, r3, r1, r2, hb, h0 g rfl⟩
theorem cell_next {w : World} {ad : Addr} {v : Value} (h : w.cell? ⟨(ad.add (Int.toNat 0 * 2)).block, (ad.add (Int.toNat 0 * 2)).off + 1, none⟩ = some v) : w.cell? (ad.add 1) = some v := by
  have e : ad.add (Int.toNat 0 * 2) = ad := by simp [Addr.add]
  rw [e] at h
  have e2 : ad.add 1 = ⟨ad.block, ad.off + 1, none⟩ := by simp [Addr.add]
  rw [e2]
  exact h
/-- The first copy: one element. -/
theorem St_first {P : Program} {t e g cap n ty : Nat} {x y : Int} {w : World} (hu : P.underlying t = some (.slice e)) (hs : (P.info? e).map (·.size) = some 2) {cur : Array Value} (h1 : w.heap[g]? = some (.cells cur e (0, 0))) (h2 : cur.size = cap * 2) (hn : 1 ≤ n) (hc : n ≤ cap) {ad : Addr} (c0 : Nat)
    (a0 : w.cell? (ad.add 0) = some (.int .i64 x)) (a1 : w.cell? (ad.add 1) = some (.int .i64 y)) :
    (Builtin.copy_ #[t, t] ty #[.slice (some ⟨g, 0, none⟩) n cap, .slice (some ad) 1 c0]).run P w = .ok (goInt 1) (w.setCells g 0 (rowOf x y 1)) ∧ St e g cap x y 1 (w.setCells g 0 (rowOf x y 1)) := by
  have hm : Nat.min 1 n = 1 := Nat.min_eq_left hn
  constructor
  · have := run_copy (P := P) w t t ty e 2 g 0 n cap ad 1 c0 (rowOf x y 1) hu hs (by rw [rowOf_len, hm]) (fun i v hv => by
      match i, hv with
      | 0, hv => simp [rowOf] at hv; rw [← hv]; exact a0
      | 1, hv => simp [rowOf] at hv; rw [← hv]; exact a1
      | i + 2, hv => simp [rowOf] at hv) (fun i hi => by
      rw [rowOf_len] at hi
      simp [World.cell?, h1]
      omega) (fun i hi => blk_frozen h1 _) (rowOf_one _ _ _)
    rw [hm] at this
    exact this
  · have h0 : St e g cap x y 0 w := ⟨cur, h1, h2, by simp [rowOf]⟩
    have := St_copy (j := 1) h0 (by omega)
    simpa using this
end Go.Proofs.YtpoafgokngpglaaDoorCopy
