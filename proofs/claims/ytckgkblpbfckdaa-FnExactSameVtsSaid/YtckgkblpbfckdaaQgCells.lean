/- A struct is stored cell by cell into a block of another type: a row stays what it is. -/
import Derived.Test.YtckgkblpbfckdaaQgWords
import Derived.Laws.IdiomCopy
import Derived.Laws.Tables
import Derived.Laws.Rows
namespace Go.Proofs.YtckgkblpbfckdaaCells
open Go Go.RowKit Go.Proofs.YtckgkblpbfckdaaW.PrintWords
theorem heap_cells {g : Nat} (k : Nat) (hk : k ≠ g) : ∀ (vs : List Value) (w : World) (o : Nat), (w.setCells g o vs).heap[k]? = w.heap[k]?
  | [], _, _ => rfl
  | v :: r, w, o => (heap_cells k hk r _ (o + 1)).trans (Below.heap_setCell w ⟨g, o, none⟩ v k hk)
theorem R_cells {α : Type} {d : Kd α} {e : Nat} {w : World} {base : Nat} {ok : Nat → Prop} {v : Value} {xs : List α} (h : d.R e w base ok v xs) {g t : Nat} {cells : Array Value} (hb : w.heap[g]? = some (.cells cells t (0, 0))) (ht : ∀ q, q ∈ e :: d.E → q ≠ t) (o : Nat) (vs : List Value) :
    d.R e (w.setCells g o vs) base ok v xs :=
  Kd.R_mono (Kd.R_step (Kd.R_types h hb ht) (fun k ho _ => heap_cells k ho.2 vs w o)) (fun _ hk => hk.1)
theorem cells_put : ∀ (vs : List Value) (pre post : List Value) (w : World) (g t : Nat), post.length = vs.length → w.heap[g]? = some (.cells (pre ++ post).toArray t (0, 0)) → (w.setCells g pre.length vs).heap[g]? = some (.cells (pre ++ vs).toArray t (0, 0))
  | [], pre, post, w, g, t, hl, h => by
    rw [List.eq_nil_of_length_eq_zero hl] at h
    exact h
  | v :: r, pre, [], w, g, t, hl, h => by cases hl
  | v :: r, pre, q :: post, w, g, t, hl, h => by
    have h1 := cells_put r (pre ++ [v]) post (w.setCell ⟨g, pre.length, none⟩ v) g t (by simpa using hl) (by
      simp [World.setCell, Array.getElem?_modify, h])
    simpa [World.setCells] using h1
/-- A struct is stored cell by cell over a block of its size. -/
theorem blk_cells {w : World} {g t : Nat} {cs : List Value} (vs : List Value) (hl : cs.length = vs.length) (h : w.heap[g]? = some (.cells cs.toArray t (0, 0))) : (w.setCells g 0 vs).heap[g]? = some (.cells vs.toArray t (0, 0)) :=
  cells_put vs [] cs w g t hl h
/-- A row beside a block that was written whole. -/
theorem R_whole {α : Type} {d : Kd α} {e : Nat} {w w1 : World} {base : Nat} {ok : Nat → Prop} {v : Value} {xs : List α} (h : d.R e w base ok v xs) {g t : Nat} {cells : Array Value} (hb : w.heap[g]? = some (.cells cells t (0, 0))) (ht : ∀ q, q ∈ e :: d.E → q ≠ t) (hf : ∀ k, k ≠ g → w1.heap[k]? = w.heap[k]?) :
    d.R e w1 base ok v xs :=
  Kd.R_mono (Kd.R_step (Kd.R_types h hb ht) (fun k ho _ => hf k ho.2)) (fun _ hk => hk.1)
/-- A struct is stored whole: what is known of the world behind it. -/
theorem store_whole {P : Program} {ops : Array Oper} {rest : List Oper} {o : Oper} {a : Act} {W : World} {Q : Exit → Act → World → Prop} {ty : TypeId} {x y : Operand} {g : Nat} {cells old : List Value} {t : TypeId}
    (hgd : o.guard = none) (ho : o.op = .store ty x y) (hx : a.eval x = .pointer (some ⟨g, 0, none⟩)) (hy : a.eval y = .agg cells.toArray) (hn : o.dst = none)
    (hb : W.heap[g]? = some (.cells old.toArray t (0, 0))) (hi : (P.info? ty).map (·.size) = some cells.length) (hold : old.length = cells.length) (h1 : cells.all (·.oneCell') = true)
    (h : ∀ w1, W.heap[g]? = some (.cells old.toArray t (0, 0)) → w1.heap[g]? = some (.cells cells.toArray t (0, 0)) → (∀ k, k ≠ g → w1.heap[k]? = W.heap[k]?) → (∀ (B : Nat) (w0 : World), B ≤ g → Below B w0 W → Below B w0 w1) → wpList P ops Q rest a w1) : wpList P ops Q (o :: rest) a W := by
  refine wpList_store_row hgd ty x y ho g cells.toArray hx hy t old.toArray hb (by simpa using hi) (by simpa using hold) (by simpa using h1) ?_
  rw [hn]
  have hgl : g < W.heap.size := (Array.getElem?_eq_some_iff.1 hb).1
  exact h _ hb (setRow_heap W g old.toArray cells.toArray t _ hb) (fun k hk => setRow_other W g k cells.toArray hk) (fun B w0 hB hw => ⟨hw.os, hw.tape, hw.output, by rw [setRow_size]; exact hw.size, fun k hk => (setRow_other W g k cells.toArray (by omega)).trans (hw.block k hk)⟩)
section
variable {P : Program} {ops : Array Oper} {rest : List Oper} {o : Oper} {a : Act} {W : World} {Q : Exit → Act → World → Prop}
theorem gate_load {t : TypeId} {p : Tmp} (_ho : o.op = .load t (.tmp p)) (h : wpList P ops Q (o :: rest) a W) : wpList P ops Q (o :: rest) a W := h
/-- A struct is loaded whole. -/
theorem load_whole {ty : TypeId} {p : Tmp} {g : Nat} {cells : List Value} {t : TypeId} {d : TypeDesc} (hgd : o.guard = none) (ho : o.op = .load ty (.tmp p)) (hx : a.eval (.tmp p) = .pointer (some ⟨g, 0, none⟩))
    (hb : W.heap[g]? = some (.cells cells.toArray t (0, 0))) (hu : P.underlying ty = some d) (hd : (match d with | .struct _ | .array _ _ => true | _ => false) = true) (hi : (P.info? ty).map (·.size) = some cells.length)
    (h : wpList P ops Q rest (a.put o.dst (.agg cells.toArray)) W) : wpList P ops Q (o :: rest) a W :=
  wpList_load_row hgd ty (.tmp p) ho g hx t cells.toArray (0, 0) d hb hu hd (by simpa using hi) h
theorem run_loadVar_part {w : World} {g off t ty : Nat} {all cells : List Value} {d : TypeDesc} (hg : w.heap[g]? = some (.cells all.toArray t (0, 0)))
    (hu : P.underlying ty = some d) (hd : (match d with | .struct _ | .array _ _ => true | _ => false) = true) (hi : (P.info? ty).map (·.size) = some cells.length) (hc : (all.drop off).take cells.length = cells) :
    (loadVar ty ⟨g, off, none⟩).run P w = .ok (.agg cells.toArray) w := by
  have hl : (loadCells ⟨g, off, none⟩ cells.length).run P w = .ok cells.toArray w :=
    run_loadCells_list (P := P) w ⟨g, off, none⟩ cells (fun j v hv => by
      rw [Addr.add_lit, cell_of_row w g (off + j) all.toArray t (0, 0) hg]
      rw [← hc, List.getElem?_take] at hv
      split at hv
      · rw [List.getElem?_drop] at hv
        simpa using hv
      · cases hv)
  cases hq : P.info? ty with
  | none => simp [hq] at hi
  | some i =>
    have hs : i.size = cells.length := by simpa [hq] using hi
    have hagg : (isAgg ty).run P w = .ok true w := by
      unfold isAgg
      rw [Sem.run_bind, run_underlying hu w]
      cases d <;> simp_all
    simp [loadVar, Sem.run_bind, hagg, sizeOf, typeInfo, hq, hs, hl]
/-- A struct inside a block is loaded whole. -/
theorem load_part {ty : TypeId} {p : Tmp} {g off : Nat} {all cells : List Value} {t : TypeId} {d : TypeDesc} (hgd : o.guard = none) (ho : o.op = .load ty (.tmp p)) (hx : a.eval (.tmp p) = .pointer (some ⟨g, off, none⟩))
    (hb : W.heap[g]? = some (.cells all.toArray t (0, 0))) (hu : P.underlying ty = some d) (hd : (match d with | .struct _ | .array _ _ => true | _ => false) = true) (hi : (P.info? ty).map (·.size) = some cells.length) (hc : (all.drop off).take cells.length = cells)
    (h : wpList P ops Q rest (a.put o.dst (.agg cells.toArray)) W) : wpList P ops Q (o :: rest) a W :=
  wpList_plain hgd fun K hK => by
    have hK2 := hK _ _ h
    unfold Oper.wp execOp
    simp only [ho, hx, Instr.loadAt, Instr.sureAddr, Sem.run_bind, Sem.run_pure, Result.andThen_ok, run_loadVar_part hb hu hd hi hc]
    exact hK2
end
end Go.Proofs.YtckgkblpbfckdaaCells
