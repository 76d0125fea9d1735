/- A whole load of a struct in a drawn region, out of what is held of its cells. -/
import Derived.Test.YtagipnepckgdfaaQeQuick
import Derived.Test.YtagipnepckgdfaaQeCells
namespace Go.Proofs.YtagipnepckgdfaaWhole
open Go Go.RowKit Go.Proofs.YtagipnepckgdfaaW.PrintWords Go.Proofs.YtagipnepckgdfaaW.PrintLast Go.Proofs.YtagipnepckgdfaaW.PrintMore
variable {P : Program} {ops : Array Oper} {Q : Exit → Act → World → Prop} {md : Region.Mode} {S : World → Prop} {ds : List Nat}
def CellsAt (w : World) (g : Nat) : Nat → List Value → Prop
  | _, [] => True
  | o, c :: r => w.cell? ⟨g, o, none⟩ = some c ∧ CellsAt w g (o + 1) r
theorem cellsAt_get {w : World} {g : Nat} : ∀ {cs : List Value} {o j : Nat} {v : Value}, CellsAt w g o cs → cs[j]? = some v → w.cell? ⟨g, o + j, none⟩ = some v
  | c :: r, o, 0, v, h, e => by
    have : c = v := by simpa using e
    subst this
    exact h.1
  | c :: r, o, j + 1, v, h, e => by
    have := cellsAt_get (j := j) h.2 (by simpa using e)
    rw [show o + (j + 1) = o + 1 + j by omega]
    exact this
theorem ca {w : World} {g o : Nat} {c : Value} {r : List Value} (h : w.cell? ⟨g, o, none⟩ = some c) (h2 : CellsAt w g (o + 1) r) : CellsAt w g o (c :: r) := ⟨h, h2⟩
theorem yields_whole {oi : Oper} {a : Act} {ty : TypeId} {p : Tmp} {g off : Nat} {cells : List Value} {d : TypeDesc} (hw : Region.wanted oi (yielded ops a.tmps) = true) (ho : oi.op = .load ty (.tmp p)) (hx : a.eval (.tmp p) = .pointer (some ⟨g, off, none⟩))
    (hu : P.underlying ty = some d) (hd : (match d with | .struct _ | .array _ _ => true | _ => false) = true) (hi : (P.info? ty).map (·.size) = some cells.length) (hS : ∀ w, S w → CellsAt w g off cells) : YieldsIf P ops S oi (.agg cells.toArray) a := by
  refine Or.inl ⟨hw, fun w hs => ?_⟩
  have hl : (loadCells ⟨g, off, none⟩ cells.length).run P w = .ok cells.toArray w :=
    run_loadCells_list (P := P) w ⟨g, off, none⟩ cells (fun j v hv => by
      rw [Addr.add_lit]
      exact cellsAt_get (hS w hs) hv)
  have hv : (loadVar ty ⟨g, off, none⟩).run P w = .ok (.agg cells.toArray) w := by
    cases hq : P.info? ty with
    | none => simp [hq] at hi
    | some i =>
      have hz : i.size = cells.length := by simpa [hq] using hi
      have hagg : (isAgg ty).run P w = .ok true w := by
        unfold isAgg
        rw [Sem.run_bind, run_underlying hu w]
        cases d <;> simp_all
      simp [loadVar, Sem.run_bind, hagg, sizeOf, typeInfo, hq, hz, hl]
  unfold execOp
  simp only [ho, hx, Instr.loadAt, Instr.sureAddr, Sem.run_bind, Sem.run_pure, Result.andThen_ok, hv]
end Go.Proofs.YtagipnepckgdfaaWhole
