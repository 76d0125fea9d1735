/- A row of bytes that a conversion of a string made (it is marked behind its end), written to and cut. -/
import Derived.Test.YtpoafgokngpglaaDoorProg
import Derived.Test.YtpoafgokngpglaaDoorQfWords
import Derived.Lib.ConvBytes
namespace Go.Proofs.YtpoafgokngpglaaDoorFw
open Go Go.RowKit Go.Proofs.YtpoafgokngpglaaDoorW.PrintWords
def Rw (e : Nat) (w : World) (base : Nat) (ok : Nat → Prop) (v : Value) (xs : List Int) : Prop :=
  ∃ g c cells fz, v = .slice (some ⟨g, 0, none⟩) xs.length c ∧ (xs.length ≤ c ∧ c ≤ fz.1 ∧ xs.length ≤ 9223372036854775807) ∧ w.heap[g]? = some (.cells cells e fz) ∧ (∀ (j : Nat) x, xs[j]? = some x → cells[j]? = some (.int .u8 x)) ∧ ok g ∧ base ≤ g
section
variable {e : Nat} {w w1 W w2 : World} {base base' : Nat} {ok ok' S : Nat → Prop} {v u : Value} {xs : List Int}
theorem Rw_mono (h : Rw e w base ok v xs) (hok : ∀ k, ok k → ok' k) : Rw e w base ok' v xs := by
  obtain ⟨g, c, cells, fz, h1, h2, h3, h4, h5, h6⟩ := h
  exact ⟨g, c, cells, fz, h1, h2, h3, h4, hok _ h5, h6⟩
theorem Rw_lower (h : Rw e w base ok v xs) (hb : base' ≤ base) : Rw e w base' ok v xs := by
  obtain ⟨g, c, cells, fz, h1, h2, h3, h4, h5, h6⟩ := h
  exact ⟨g, c, cells, fz, h1, h2, h3, h4, h5, Nat.le_trans hb h6⟩
theorem Rw_step (h : Rw e w base ok v xs) (hm : ∀ k, ok k → k < w.heap.size → w1.heap[k]? = w.heap[k]?) : Rw e w1 base ok v xs := by
  obtain ⟨g, c, cells, fz, h1, h2, h3, h4, h5, h6⟩ := h
  exact ⟨g, c, cells, fz, h1, h2, (hm g h5 (Array.getElem?_eq_some_iff.1 h3).1).trans h3, h4, h5, h6⟩
theorem Rw_below (h : Rw e w base ok v xs) (hb : Below w.heap.size w w1) : Rw e w1 base ok v xs := Rw_step h (fun k _ hk => hb.block k hk)
theorem Rw_alloc (h : Rw e w base ok v xs) (o : Obj) : Rw e (w.alloc o) base ok v xs := Rw_below h (below_alloc (Below.refl _ _) o)
theorem Rw_drew (h : Rw e w base ok v xs) : Rw e w.drew base ok v xs := Rw_below h (below_drew (Below.refl _ _))
theorem Rw_drewN (h : Rw e w base ok v xs) (m : Nat) : Rw e (w.drewN m) base ok v xs := Rw_below h (pw_below_drewN (Below.refl _ _) m)
theorem Rw_keep (h : Rw e w base ok v xs) {g : Nat} (hk : KeepBut w w1 g none) (hok : ∀ k, ok k → k ≠ g) : Rw e w1 base ok v xs := Rw_step h (fun k ho hlt => hk.2 k hlt (hok k ho) (by simp))
theorem Rw_types (h : Rw e w base ok v xs) {g t : Nat} {cells : Array Value} (hb : w.heap[g]? = some (.cells cells t (0, 0))) (ht : e ≠ t) : Rw e w base (fun k => ok k ∧ k ≠ g) v xs := by
  obtain ⟨g', c, cells', fz, h1, h2, h3, h4, h5, h6⟩ := h
  refine ⟨g', c, cells', fz, h1, h2, h3, h4, ⟨h5, fun hg => ?_⟩, h6⟩
  rw [hg, hb] at h3
  injection h3 with p5
  injection p5 with _ p6 _
  exact ht p6.symm
theorem Rw_ne (h : Rw e w base ok v xs) {g t : Nat} {cells : Array Value} (hb : w.heap[g]? = some (.cells cells t (0, 0))) (ht : e ≠ t) : some g ≠ v.ownBlock := by
  obtain ⟨g', c, cells', fz, rfl, h2, h3, h4, ⟨h5, h7⟩, h6⟩ := Rw_types h hb ht
  intro he
  have : g' = g := by simpa [Value.ownBlock] using he.symm
  exact h7 this
theorem Rw_slice (h : Rw e w base ok v xs) : ∃ A c, v = .slice A xs.length c := by
  obtain ⟨g, c, cells, fz, h1, _⟩ := h
  exact ⟨_, _, h1⟩
theorem Rw_C {A : Option Addr} {n c : Nat} (h : Rw e w base ok (.slice A n c) xs) : n = xs.length ∧ n ≤ c ∧ Kd.C (Kd.int .u8) w A xs.length xs := by
  obtain ⟨g, c', cells, fz, h1, h2, h3, h4, h5, h6⟩ := h
  injection h1 with e1 e2 e3
  subst e1 e2 e3
  refine ⟨rfl, h2.1, rfl, h2.2.2, fun _ => ⟨_, rfl, fun j p hj => ⟨[.int .u8 p], rfl, rfl, fun i x hx => ?_⟩⟩⟩
  cases i with
  | succ i => simp at hx
  | zero =>
    have : Value.int .u8 p = x := by simpa using hx
    subst this
    rw [Addr.add_lit]
    have hsz : (Kd.int .u8).sz = 1 := rfl
    rw [hsz]
    simp only [World.cell?, h3]
    simpa using h4 j p hj
theorem Rw_reads' {A : Option Addr} {n c : Nat} (h : Rw e w base ok (.slice A n c) xs) : n = xs.length ∧ n ≤ c ∧ Kd.C (Kd.int .u8) w A xs.length xs := Rw_C h
theorem Rw_form (h : Rw e w base ok v xs) (_ : 0 < xs.length) : ∃ g cap, v = .slice (some ⟨g, 0, none⟩) xs.length cap ∧ base ≤ g ∧ g < w.heap.size ∧ ∃ _cells : Array Value, True := by
  obtain ⟨g, c, cells, fz, h1, h2, h3, h4, h5, h6⟩ := h
  exact ⟨g, c, h1, h6, (Array.getElem?_eq_some_iff.1 h3).1, cells, trivial⟩
theorem Rw_celln {g n c : Nat} (d : Int) (h : Rw e w base ok (.slice (some ⟨g, 0, none⟩) n c) xs) (i : Int) (h0 : 0 ≤ i) (hi : i < n) : w.cell? ⟨g, i.toNat, none⟩ = some (.int .u8 (rdOf d xs i)) ∧ w.frozen? ⟨g, i.toNat, none⟩ = false := by
  obtain ⟨g', c', cells, fz, h1, h2, h3, h4, h5, h6⟩ := h
  injection h1 with e1 e2 e3
  injection e1 with e1
  injection e1 with e1
  subst e1 e2 e3
  have hlt : i.toNat < xs.length := by omega
  constructor
  · have := h4 i.toNat _ (List.getElem?_eq_getElem hlt)
    simp only [World.cell?, h3]
    have e : rdOf d xs i = xs[i.toNat] := by
      unfold rdOf
      rw [List.getD_eq_getElem?_getD, List.getElem?_eq_getElem hlt]
      rfl
    rw [e]
    simpa using this
  · simp only [World.frozen?, h3]
    simp
    omega
theorem Rw_putg {g n c : Nat} (h : Rw e w base ok (.slice (some ⟨g, 0, none⟩) n c) xs) (i : Int) (x : Int) : Rw e (w.setCell ⟨g, i.toNat, none⟩ (.int .u8 x)) base ok (.slice (some ⟨g, 0, none⟩) n c) (xs.set i.toNat x) ∧ w.grownBy (w.setCell ⟨g, i.toNat, none⟩ (.int .u8 x)) (some g) := by
  obtain ⟨g', c', cells, fz, h1, h2, h3, h4, h5, h6⟩ := h
  injection h1 with e1 e2 e3
  injection e1 with e1
  injection e1 with e1
  subst e1 e2 e3
  refine ⟨⟨g, c, cells.setIfInBounds i.toNat (.int .u8 x), fz, by rw [List.length_set], by rw [List.length_set]; exact h2, ?_, ?_, h5, h6⟩, ⟨rfl, rfl, rfl, by simp [World.setCell], fun k _ hne => Below.heap_setCell w _ _ k (fun hk => hne (by rw [hk]))⟩⟩
  · simp [World.setCell, Array.getElem?_modify, h3]
  · intro j y hj
    rw [List.getElem?_set] at hj
    rw [Array.getElem?_setIfInBounds]
    by_cases hij : i.toNat = j
    · rw [if_pos hij] at hj ⊢
      split at hj
      · rename_i hl
        have := h4 i.toNat _ (List.getElem?_eq_getElem hl)
        have hcl := (Array.getElem?_eq_some_iff.1 this).1
        obtain rfl := Option.some.inj hj
        rw [if_pos hcl]
      · cases hj
    · rw [if_neg hij] at hj ⊢
      exact h4 j y hj
theorem Rw_take {A : Option Addr} {m n c : Nat} (h : Rw e w base ok (.slice A n c) xs) (hm : m ≤ xs.length) : Rw e w base ok (.slice A m c) (xs.take m) := by
  obtain ⟨g, c', cells, fz, h1, h2, h3, h4, h5, h6⟩ := h
  injection h1 with e1 e2 e3
  subst e1 e2 e3
  have hl : (xs.take m).length = m := by rw [List.length_take]; omega
  refine ⟨g, c, cells, fz, by rw [hl], by rw [hl]; omega, h3, fun j x hj => h4 j x ?_, h5, h6⟩
  rw [List.getElem?_take] at hj
  split at hj
  · exact hj
  · cases hj
theorem Rw_string {P : Program} {src dst e' : TypeId} (hs : P.underlying src = some (.slice e')) (he : P.underlying e' = some (.int .u8)) (hd : P.underlying dst = some .string) (h : Rw e w base ok v xs) : (convert src dst v).run P w = .ok (.string (strOfNums xs)) w := by
  obtain ⟨A, c, rfl⟩ := Rw_slice h
  exact Kd.C_string hs he hd (Rw_C h).2.2
end
theorem below_bytes (w : World) (e : TypeId) (s : ByteArray) : Below w.heap.size w (Lib.bytesWorld w e s) := by
  refine ⟨?_, ?_, ?_, ?_, fun k hk => Lib.bytesWorld_at_old w e s k hk⟩
  · simp [Lib.bytesWorld, World.freeze, World.alloc, World.drew, -World.alloc_eq, -World.drew_eq]
  · simp [Lib.bytesWorld, World.freeze, World.alloc, World.drew, -World.alloc_eq, -World.drew_eq]
  · simp [Lib.bytesWorld, World.freeze, World.alloc, World.drew, -World.alloc_eq, -World.drew_eq]
  · rw [Lib.bytesWorld_size]
    omega
section
variable {P : Program} {ops : Array Oper} {rest : List Oper} {o : Oper} {a : Act} {Q : Exit → Act → World → Prop}
/-- A conversion of a string to bytes. -/
theorem Rw_conv {W : World} (src dst e : TypeId) (hgd : o.guard = none) {N : Tmp} (_hd : o.dst = some N) (x : Operand) (ho : o.op = .convert src dst x) {u : TypeDesc} (hs : P.underlying src = some u) (hd : P.underlying dst = some (.slice e)) (he : P.underlying e = some (.int .u8))
    (s : ByteArray) (hx : a.eval x = .string s) (hz : s.size ≤ 9223372036854775807)
    (h : ∀ v1 w1, Rw e w1 W.heap.size (fun _ => True) v1 (bytesOf s) → Below W.heap.size W w1 → wpList P ops Q rest (a.put o.dst v1) w1) : wpList P ops Q (o :: rest) a W := by
  have hrun : (execOp a.eval o).run P W = .ok (.value (.slice (some ⟨W.heap.size, 0, none⟩) s.size (grownCap W s.size 0 e))) (Lib.bytesWorld W e s) := by
    unfold execOp
    simp only [ho, hx, Sem.run_bind, Lib.run_convert_string_bytes W src dst e s hs hd he, Result.andThen_ok, Sem.run_pure]
  have hc := grownCap_ge W s.size 0 e
  have hsz : (Lib.bytesCells W e s).size = grownCap W s.size 0 e := by
    simp only [Lib.bytesCells, Array.size_append, Array.size_map, Array.size_replicate]
    have : s.data.size = s.size := rfl
    omega
  refine Kd.event_run hgd hrun (h _ _ ⟨W.heap.size, grownCap W s.size 0 e, Lib.bytesCells W e s, _, by rw [bytesOf_length], ⟨by rw [bytesOf_length]; exact hc, by show _ ≤ (Lib.bytesCells W e s).size; omega, by rw [bytesOf_length]; exact hz⟩, Lib.bytesWorld_at_new W e s, ?_, trivial, Nat.le_refl _⟩ (below_bytes W e s))
  intro j y hj
  have hlt := (List.getElem?_eq_some_iff.1 hj).1
  rw [bytesOf_length] at hlt
  have h1 := Lib.bytesWorld_cell W e s j hlt
  simp only [World.cell?, Lib.bytesWorld_at_new] at h1
  have h2 : (Lib.bytesCells W e s)[j]? = some (.int .u8 ((s.data.toList.getD j 0).toNat : Int)) := by simpa using h1
  rw [h2]
  congr 2
  unfold bytesOf at hj
  rw [List.getElem?_map] at hj
  obtain ⟨b, hb, rfl⟩ := Option.map_eq_some_iff.1 hj
  rw [List.getD_eq_getElem?_getD, hb]
  rfl
end
end Go.Proofs.YtpoafgokngpglaaDoorFw
