/- A row of bytes that a conversion of a string made: it may be marked, and it is only read. And: a string's bytes appended to the one field of a struct behind a pointer. -/
import Derived.Test.YtpoafgokngpglaaDoorProg
import Derived.Test.YtpoafgokngpglaaDoorWWords
import Derived.Test.YtpoafgokngpglaaDoorWKept
import Derived.Test.YtpoafgokngpglaaDoorWMore
import Derived.Lib.ConvBytes
namespace Go.Proofs.YtpoafgokngpglaaDoorFz
open Go Go.RowKit Go.Proofs.YtpoafgokngpglaaDoorW.PrintWords
/-- Such a row: its block is one of ok, not older than base. -/
def Rf (e : Nat) (w : World) (base : Nat) (ok : Nat → Prop) (v : Value) (xs : List Int) : Prop :=
  ∃ A c, v = .slice A xs.length c ∧ xs.length ≤ c ∧ Kd.C (Kd.int .u8) w A xs.length xs ∧ ∀ ad, A = some ad → ok ad.block ∧ base ≤ ad.block ∧ ad.block < w.heap.size ∧ ∃ cells fz, w.heap[ad.block]? = some (.cells cells e fz)
section
variable {e : Nat} {w w1 W w2 : World} {base base' : Nat} {ok ok' S : Nat → Prop} {v u : Value} {xs : List Int}
theorem Rf_nil (e : Nat) (w : World) (base : Nat) (ok : Nat → Prop) : Rf e w base ok (.slice none 0 0) [] := ⟨none, 0, rfl, Nat.le_refl _, Kd.C_nil _ w, fun ad ha => by cases ha⟩
theorem Rf_mono (h : Rf e w base ok v xs) (hok : ∀ k, ok k → ok' k) : Rf e w base ok' v xs := by
  obtain ⟨A, c, h1, h2, h3, h4⟩ := h
  exact ⟨A, c, h1, h2, h3, fun ad ha => ⟨hok _ (h4 ad ha).1, (h4 ad ha).2⟩⟩
theorem Rf_lower (h : Rf e w base ok v xs) (hb : base' ≤ base) : Rf e w base' ok v xs := by
  obtain ⟨A, c, h1, h2, h3, h4⟩ := h
  exact ⟨A, c, h1, h2, h3, fun ad ha => ⟨(h4 ad ha).1, Nat.le_trans hb (h4 ad ha).2.1, (h4 ad ha).2.2⟩⟩
theorem cell_same {a : Addr} (h : w1.heap[a.block]? = w.heap[a.block]?) : w1.cell? a = w.cell? a := by
  unfold World.cell?
  rw [h]
theorem Rf_step (h : Rf e w base ok v xs) (hm : ∀ k, ok k → k < w.heap.size → w1.heap[k]? = w.heap[k]?) : Rf e w1 base ok v xs := by
  obtain ⟨A, c, h1, h2, h3, h4⟩ := h
  refine ⟨A, c, h1, h2, ⟨h3.1, h3.2.1, fun hn => ?_⟩, fun ad ha => ?_⟩
  · obtain ⟨ad, ha, hc⟩ := h3.2.2 hn
    refine ⟨ad, ha, fun j p hj => ?_⟩
    obtain ⟨cs, hl, hK, hu⟩ := hc j p hj
    refine ⟨cs, hl, hK, fun i x hx => ?_⟩
    have hq := hu i x hx
    have hb := (h4 ad ha)
    have : w1.cell? (ad.add (j * (Kd.int .u8).sz + i)) = w.cell? (ad.add (j * (Kd.int .u8).sz + i)) := cell_same (by
      rw [show (ad.add (j * (Kd.int .u8).sz + i)).block = ad.block by unfold Addr.add; first | rfl | (split <;> rfl) | simp]
      exact hm _ hb.1 hb.2.2.1)
    rw [this]
    exact hq
  · obtain ⟨p1, p2, p3, cells, fz, p4⟩ := h4 ad ha
    have e1 := hm _ p1 p3
    refine ⟨p1, p2, ?_, cells, fz, e1.trans p4⟩
    have e2 := e1.trans p4
    exact (Array.getElem?_eq_some_iff.1 e2).1
theorem Rf_below (h : Rf e w base ok v xs) (hb : Below w.heap.size w w1) : Rf e w1 base ok v xs := Rf_step h (fun k _ hk => hb.block k hk)
theorem Rf_alloc (h : Rf e w base ok v xs) (o : Obj) : Rf e (w.alloc o) base ok v xs := Rf_below h (below_alloc (Below.refl _ _) o)
theorem Rf_drew (h : Rf e w base ok v xs) : Rf e w.drew base ok v xs := Rf_below h (below_drew (Below.refl _ _))
theorem Rf_drewN (h : Rf e w base ok v xs) (m : Nat) : Rf e (w.drewN m) base ok v xs := Rf_below h (pw_below_drewN (Below.refl _ _) m)
theorem Rf_far (h : Rf e w base ok v xs) {p : Addr} (hok : ∀ k, ok k → k ≠ p.block) (x : Value) : Rf e (w.setCell p x) base ok v xs := Rf_step h (fun k ho _ => Below.heap_setCell w p x k (hok k ho))
theorem Rf_types (h : Rf e w base ok v xs) {g t : Nat} {cells : Array Value} (hb : w.heap[g]? = some (.cells cells t (0, 0))) (ht : ∀ q, q ∈ [e] → q ≠ t) : Rf e w base (fun k => ok k ∧ k ≠ g) v xs := by
  obtain ⟨A, c, h1, h2, h3, h4⟩ := h
  refine ⟨A, c, h1, h2, h3, fun ad ha => ?_⟩
  obtain ⟨p1, p2, p3, cells', fz, p4⟩ := h4 ad ha
  refine ⟨⟨p1, fun hg => ?_⟩, p2, p3, cells', fz, p4⟩
  rw [hg, hb] at p4
  injection p4 with p5
  injection p5 with _ p6 _
  exact ht e (by simp) p6.symm
theorem Rf_slice (h : Rf e w base ok v xs) : ∃ A c, v = .slice A xs.length c := by
  obtain ⟨A, c, h1, _⟩ := h
  exact ⟨A, c, h1⟩
theorem Rf_reads' {A : Option Addr} {n c : Nat} (h : Rf e w base ok (.slice A n c) xs) : n = xs.length ∧ n ≤ c ∧ Kd.C (Kd.int .u8) w A xs.length xs := by
  obtain ⟨A', c', h1, h2, h3, _⟩ := h
  injection h1 with e1 e2 e3
  subst e1 e2 e3
  exact ⟨rfl, h2, h3⟩
theorem Rf_own (h : Rf e w base ok v xs) : ∀ k, v.ownBlock = some k → ok k ∧ base ≤ k ∧ k < w.heap.size := by
  obtain ⟨A, c, rfl, _, _, h4⟩ := h
  intro k hk
  cases A with
  | none => simp [Value.ownBlock] at hk
  | some ad =>
    have : ad.block = k := by simpa [Value.ownBlock] using hk
    subst this
    exact ⟨(h4 ad rfl).1, (h4 ad rfl).2.1, (h4 ad rfl).2.2.1⟩
theorem Rf_lt (h : Rf e w base ok v xs) : ∀ k, v.ownBlock = some k → k < w.heap.size := fun k hk => (Rf_own h k hk).2.2
theorem Rf_bound (h : Rf e w base ok v xs) : Rf e w base (fun k => ok k ∧ base ≤ k ∧ k < w.heap.size) v xs := by
  obtain ⟨A, c, h1, h2, h3, h4⟩ := h
  exact ⟨A, c, h1, h2, h3, fun ad ha => ⟨⟨(h4 ad ha).1, (h4 ad ha).2.1, (h4 ad ha).2.2.1⟩, (h4 ad ha).2⟩⟩
theorem Rf_elder' (hu : Rf e W base ok u xs) (hbase : ∀ k, v.ownBlock = some k → W.heap.size ≤ k) (hb : Below W.heap.size W w1) : Rf e w1 base (fun k => ok k ∧ some k ≠ v.ownBlock) u xs :=
  Rf_mono (Rf_below (Rf_bound hu) hb) (fun k hk => ⟨hk.1, fun he => by
    have := hbase k he.symm
    have := hk.2.2
    omega⟩)
theorem Rf_keptB (h : Rf e W base ok v xs) (hk : Kept W w2 S) (hne : ∀ k, ok k → ¬ S k) : Rf e w2 base (fun k => ok k ∧ (¬ S k ∧ k < W.heap.size)) v xs :=
  Rf_mono (Rf_step (Rf_bound h) (fun k ho hlt => hk.2 k hlt (hne k ho.1))) (fun k hk => ⟨hk.1, hne k hk.1, hk.2.2⟩)
end
theorem below_bytes (w : World) (e : TypeId) (s : ByteArray) : Below w.heap.size w (Lib.bytesWorld w e s) := by
  refine ⟨?_, ?_, ?_, ?_, fun k hk => Lib.bytesWorld_at_old w e s k hk⟩
  · simp [Lib.bytesWorld, World.freeze, World.alloc, World.drew, -World.alloc_eq, -World.drew_eq]
  · simp [Lib.bytesWorld, World.freeze, World.alloc, World.drew, -World.alloc_eq, -World.drew_eq]
  · simp [Lib.bytesWorld, World.freeze, World.alloc, World.drew, -World.alloc_eq, -World.drew_eq]
  · rw [Lib.bytesWorld_size]
    omega
section
variable {P : Program} {ops : Array Oper} {rest : List Oper} {o : Oper} {a : Act} {Q : Exit → Act → World → Prop}
/-- A conversion of a string to bytes. -/
theorem Rf_conv {W : World} (src dst e : TypeId) (hgd : o.guard = none) {N : Tmp} (_hd : o.dst = some N) (x : Operand) (ho : o.op = .convert src dst x) {u : TypeDesc} (hs : P.underlying src = some u) (hd : P.underlying dst = some (.slice e)) (he : P.underlying e = some (.int .u8))
    (s : ByteArray) (hx : a.eval x = .string s) (hz : s.size ≤ 9223372036854775807)
    (h : ∀ v1 w1, Rf e w1 W.heap.size (fun _ => True) v1 (bytesOf s) → Below W.heap.size W w1 → wpList P ops Q rest (a.put o.dst v1) w1) : wpList P ops Q (o :: rest) a W := by
  have hrun : (execOp a.eval o).run P W = .ok (.value (.slice (some ⟨W.heap.size, 0, none⟩) s.size (grownCap W s.size 0 e))) (Lib.bytesWorld W e s) := by
    unfold execOp
    simp only [ho, hx, Sem.run_bind, Lib.run_convert_string_bytes W src dst e s hs hd he, Result.andThen_ok, Sem.run_pure]
  refine Kd.event_run hgd hrun (h _ _ ⟨some ⟨W.heap.size, 0, none⟩, _, by rw [bytesOf_length], by rw [bytesOf_length]; exact grownCap_ge W s.size 0 e, ?_, ?_⟩ (below_bytes W e s))
  · have := Kd.C_of_reads (h1 := fun _ => rfl) (bytes_reads W e s hz)
    rw [← bytesOf_length s] at this
    exact this
  · intro ad ha
    obtain rfl := Option.some.inj ha
    refine ⟨trivial, Nat.le_refl _, ?_, _, _, Lib.bytesWorld_at_new W e s⟩
    rw [Lib.bytesWorld_size]
    exact Nat.lt_succ_self _
end
end Go.Proofs.YtpoafgokngpglaaDoorFz
