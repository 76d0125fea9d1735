/- Laws for slices.Delete: a cut with a capacity, a cut beyond the length, 'clear' of one element of several cells behind the length of a row of the call's own. -/
import Derived.Test.YtpoafgokngpglaaQdWords
import Derived.Lib.SliceRun
namespace Go.Proofs.YtpoafgokngpglaaClear
open Go Go.RowKit Go.Proofs.YtpoafgokngpglaaW.PrintWords
set_option linter.unusedVariables false
section
variable {P : Program}
/-- A cut with a capacity: some value, the world as it was. -/
theorem cut_max (t e : TypeId) (kl kh km : IntKind) {i : TypeInfo} (ht : P.underlying t = some (.slice e)) (hi : P.info? e = some i) (A : Option Addr) (n c : Nat) (lo hi' mx : Int) (h0 : 0 ≤ lo) (h1 : lo ≤ hi') (h2 : hi' ≤ mx) (h3 : mx ≤ c) :
    ∃ v, ∀ W : World, (Instr.slice t (.slice A n c) (some (.int kl lo)) (some (.int kh hi')) (some (.int km mx))).run P W = .ok v W := by
  have hel : P.elem t = e := by simp [Program.elem, ht]
  have hu : P.underlying t = some (.slice (P.elem t)) := by rw [hel]; exact ht
  have e1 : (hi'.toNat : Int) = hi' := Int.toNat_of_nonneg (by omega)
  have e2 : (mx.toNat : Int) = mx := Int.toNat_of_nonneg (by omega)
  have b1 : ∀ W : World, (Instr.sliceBounds true n c (some (.int kl lo)) (some (.int kh hi')) (some (.int km mx))).run P W = .ok (lo.toNat, hi'.toNat, mx.toNat) W := by
    intro W
    simp [Instr.sliceBounds, run_sliceBound, e1, e2, h0, h1, h2, h3, (by omega : 0 ≤ hi'), (by omega : 0 ≤ mx)]
  refine ⟨sliced A lo.toNat hi'.toNat mx.toNat i.size, fun W => ?_⟩
  rw [run_slice_any W t A n c hu, b1, hel]
  simp [sizeOf, typeInfo, hi, Result.andThen]
/-- A cut that may reach beyond the length. -/
theorem cut_cap (t e : TypeId) (kl kh : IntKind) {i : TypeInfo} (ht : P.underlying t = some (.slice e)) (hi : P.info? e = some i) (size : Nat) (hsz : i.size = size) (g n c : Nat) (lo hi' : Int) (h0 : 0 ≤ lo) (h1 : lo < hi') (h2 : hi' ≤ c) :
    ∀ W : World, (Instr.slice t (.slice (some ⟨g, 0, none⟩) n c) (some (.int kl lo)) (some (.int kh hi')) none).run P W = .ok (.slice (some ⟨g, lo.toNat * size, none⟩) (hi'.toNat - lo.toNat) (c - lo.toNat)) W := by
  intro W
  have hel : P.elem t = e := by simp [Program.elem, ht]
  have hu : P.underlying t = some (.slice (P.elem t)) := by rw [hel]; exact ht
  have hne : ¬ c = lo.toNat := by omega
  rw [run_slice_lh W t _ n c hu kl kh lo hi' h0 (by omega) h2, hel]
  simp [sizeOf, typeInfo, hi, hsz, sliced, Result.andThen, hne, Addr.add]
  exact fun h => h.symm
/-- 'clear' of one element. -/
theorem run_clear_one (w : World) (t e ty : TypeId) (z : Value) (vs : List Value) (ht : P.underlying t = some (.slice e)) (hv : ∀ w, (zeroValue e).run P w = .ok z w) (hz : (Builtin.zeroCells z.cells 1).toList = vs) (b o c : Nat)
    (h1 : ∀ v ∈ vs, v.oneCell' = true) (hc : ∀ j, j < vs.length → (w.cell? ⟨b, o + j, none⟩).isSome = true) (hf : ∀ j, j < vs.length → w.frozen? ⟨b, o + j, none⟩ = false) :
    (Builtin.clear_ #[t] ty #[.slice (some ⟨b, o, none⟩) 1 c]).run P w = .ok (.tuple #[]) (w.setCells b o vs) := by
  have hst := run_storeCells_cells (P := P) b o vs 0 w (by simpa using hc) (by simpa using hf) h1
  simp only [Nat.add_zero] at hst
  simp [Builtin.clear_, run_underlying ht, hv, hz, hst]
end
theorem owns_set {w : World} {base e size n g c o : Nat} {xs : List Value} {u : Value} (h : w.ownsRow base e size (.slice (some ⟨g, 0, none⟩) n c) n xs) (ho : n * size ≤ o) : (w.setCell ⟨g, o, none⟩ u).ownsRow base e size (.slice (some ⟨g, 0, none⟩) n c) n xs := by
  obtain ⟨h1, h2⟩ := h
  refine ⟨h1, .inr ?_⟩
  rcases h2 with ⟨e0, _⟩ | ⟨g', cap, cur, e0, hb, hh, r1, r2, r3, r4⟩
  · cases e0
  · injection e0 with e1 e2 e3
    injection e1 with e1
    injection e1 with e1
    subst e1 e3
    refine ⟨g, c, cur.setIfInBounds o u, rfl, hb, ?_, r1, r2, by simpa using r3, ?_⟩
    · simp [World.setCell, Array.getElem?_modify, hh]
    · rw [Array.toList_setIfInBounds, List.take_set_of_le ho]
      exact r4
theorem owns_sets {base e size n g c : Nat} {xs : List Value} : ∀ (vs : List Value) (w : World) (o : Nat), w.ownsRow base e size (.slice (some ⟨g, 0, none⟩) n c) n xs → n * size ≤ o → (w.setCells g o vs).ownsRow base e size (.slice (some ⟨g, 0, none⟩) n c) n xs
  | [], _, _, h, _ => h
  | v :: r, w, o, h, ho => owns_sets r _ (o + 1) (owns_set h ho) (by omega)
theorem owns_block {α : Type} {d : Kd α} {e g n c base : Nat} {w : World} {ok : Nat → Prop} {xs : List α} (h : d.R e w base ok (.slice (some ⟨g, 0, none⟩) n c) xs) : ∃ cur : Array Value, w.heap[g]? = some (.cells cur e (0, 0)) ∧ cur.size = c * d.sz := by
  obtain ⟨_, inner, ⟨_, h2⟩, _⟩ := h
  rcases h2 with ⟨e0, _⟩ | ⟨g', cap, cur, e0, hb, hh, r1, r2, r3, r4⟩
  · cases e0
  · injection e0 with e1 e2 e3
    injection e1 with e1
    injection e1 with e1
    subst e1 e3
    exact ⟨cur, hh, r3⟩
theorem block_some {w : World} {g e o : Nat} {cur : Array Value} (h : w.heap[g]? = some (.cells cur e (0, 0))) (ho : o < cur.size) : (w.cell? ⟨g, o, none⟩).isSome = true := by
  simp [World.cell?, h, ho]
theorem heap_sets {g : Nat} (k : Nat) (hk : k ≠ g) : ∀ (vs : List Value) (w : World) (o : Nat), (w.setCells g o vs).heap[k]? = w.heap[k]?
  | [], _, _ => rfl
  | v :: r, w, o => (heap_sets k hk r _ (o + 1)).trans (Below.heap_setCell w ⟨g, o, none⟩ v k hk)
theorem below_sets {B g : Nat} {a : World} (hg : B ≤ g) : ∀ (vs : List Value) (w : World) (o : Nat), Below B a w → Below B a (w.setCells g o vs)
  | [], _, _, h => h
  | v :: r, w, o, h => below_sets hg r _ (o + 1) (h.setCell hg v)
theorem kept_sets {g : Nat} {a : World} {S : Nat → Prop} (hg : S g ∨ a.heap.size ≤ g) : ∀ (vs : List Value) (w : World) (o : Nat), Kept a w S → Kept a (w.setCells g o vs) S
  | [], _, _, h => h
  | v :: r, w, o, h => kept_sets hg r _ (o + 1) (h.setCell hg v)
/-- What lies behind a row's length is none of it. -/
theorem R_sets {α : Type} {d : Kd α} {e g n c base : Nat} {w : World} {ok : Nat → Prop} {xs : List α} (h : d.R e w base ok (.slice (some ⟨g, 0, none⟩) n c) xs) (hn : xs.length = n) (vs : List Value) (o : Nat) (ho : n * d.sz ≤ o) :
    d.R e (w.setCells g o vs) base ok (.slice (some ⟨g, 0, none⟩) n c) xs := by
  subst hn
  obtain ⟨h0, inner, ho', hr⟩ := h
  refine ⟨h0, inner, owns_sets vs w o ho' ho, hr.imp_ (fun _ _ hp => Kd.M_step hp (fun k hk _ => heap_sets k (fun e => hk.2 ?_) vs w o))⟩
  simp [Value.ownBlock, e]
end Go.Proofs.YtpoafgokngpglaaClear
