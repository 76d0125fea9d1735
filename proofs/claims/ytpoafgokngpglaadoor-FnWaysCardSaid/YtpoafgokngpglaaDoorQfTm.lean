/- What the table of powers of ten reads as; strings as elements of one cell. -/
import Derived.Test.YtpoafgokngpglaaDoorProg
import Derived.Test.YtpoafgokngpglaaDoorQfFlat
import Derived.Lib.LaidTab
import Derived.Lib.ItoaNum
namespace Go.Proofs.YtpoafgokngpglaaDoorTm
open Go Go.RowKit Go.Proofs.YtpoafgokngpglaaDoorW.PrintWords Go.Proofs.YtpoafgokngpglaaDoorFlat
theorem flatStr : Flat Kd.string (fun s => [Value.string s]) := ⟨fun _ => rfl, fun x v hv => by
    simp at hv
    subst hv
    rfl, fun w base ok x cs => Iff.rfl, fun w x cs => Iff.rfl⟩
theorem flat_str (l : List ByteArray) : l.flatMap (fun s => [Value.string s]) = l.map Value.string := by
  induction l with
  | nil => rfl
  | cons x r ih => rw [List.flatMap_cons, ih]; rfl
/-- The table of powers of ten. -/
def TabG (w : World) : Prop := Lib.TabIs Tryd.prog w "internal/strconv.uint64pow10" .u64 Lib.pow10Tab
theorem gN : Tryd.prog.globalNamed "internal/strconv.uint64pow10" = some 6 := by kernel_rfl
theorem TabG_below {w w' : World} (h : TabG w) (hb : Below w.heap.size w w') : TabG w' := by
  unfold TabG Lib.TabIs World.var? at h ⊢
  rw [gN] at h ⊢
  simp only [Option.bind_some] at h ⊢
  have hlt : 6 < w.heap.size := by
    rcases Nat.lt_or_ge 6 w.heap.size with h' | h'
    · exact h'
    · rw [Array.getElem?_eq_none h'] at h
      cases h
  rw [hb.block 6 hlt]
  exact h
end Go.Proofs.YtpoafgokngpglaaDoorTm
