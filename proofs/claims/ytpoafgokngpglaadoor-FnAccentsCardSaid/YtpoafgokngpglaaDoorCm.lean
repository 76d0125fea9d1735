/- The tables of letters and of letters with accents, as the walks want them. -/
import Derived.Test.YtpoafgokngpglaaDoorProg
import Derived.Test.YtpoafgokngpglaaDoorWWords
import Derived.Lib.LaidPrint
namespace Go.Proofs.YtpoafgokngpglaaDoorCm
open Go Go.RowKit Go.Proofs.YtpoafgokngpglaaDoorW.PrintWords
def lets : List ByteArray := [⟨#[]⟩, ⟨#[97, 101, 111]⟩, ⟨#[97, 101, 111]⟩, ⟨#[97, 111, 117]⟩]
def accd : List (List Int) := [[], [224, 232, 242], [225, 233, 243], [228, 246, 252]]
/-- What the package's two tables hold. -/
def TabC (w : World) : Prop := ∃ A1 c1 A2 c2, w.cell? ⟨1, 0, none⟩ = some (.slice A1 4 c1) ∧ Kd.C Kd.string w A1 4 lets ∧ w.cell? ⟨2, 0, none⟩ = some (.slice A2 4 c2) ∧ Kd.C (Kd.slice 2 (Kd.int .i64)) w A2 4 accd
theorem TabC_below {w w' : World} (h : TabC w) (hb : Below w.heap.size w w') : TabC w' := by
  obtain ⟨A1, c1, A2, c2, h1, h2, h3, h4⟩ := h
  exact ⟨A1, c1, A2, c2, (Below.cell hb (World.block_lt_of_cell? w _ h1)).trans h1, Kd.C_below h2 hb, (Below.cell hb (World.block_lt_of_cell? w _ h3)).trans h3, Kd.C_below h4 hb⟩
theorem below_bytes (w : World) (e : TypeId) (s : ByteArray) : Below w.heap.size w (Lib.bytesWorld w e s) := by
  refine ⟨?_, ?_, ?_, ?_, fun k hk => Lib.bytesWorld_at_old w e s k hk⟩
  · simp [Lib.bytesWorld, World.freeze, World.alloc, World.drew, -World.alloc_eq, -World.drew_eq]
  · simp [Lib.bytesWorld, World.freeze, World.alloc, World.drew, -World.alloc_eq, -World.drew_eq]
  · simp [Lib.bytesWorld, World.freeze, World.alloc, World.drew, -World.alloc_eq, -World.drew_eq]
  · rw [Lib.bytesWorld_size]
    omega
/-- What the package's table of accents holds. -/
def TabA (w : World) : Prop := ∃ A c, w.cell? ⟨0, 0, none⟩ = some (.slice A 4 c) ∧ Kd.C (Kd.int .i64) w A 4 [0, 96, 39, 34]
theorem TabA_below {w w' : World} (h : TabA w) (hb : Below w.heap.size w w') : TabA w' := by
  obtain ⟨A, c, h1, h2⟩ := h
  exact ⟨A, c, (Below.cell hb (World.block_lt_of_cell? w _ h1)).trans h1, Kd.C_below h2 hb⟩
def TabF (w : World) : Prop := TabC w ∧ TabA w
theorem TabF_below {w w' : World} (h : TabF w) (hb : Below w.heap.size w w') : TabF w' := ⟨TabC_below h.1 hb, TabA_below h.2 hb⟩
end Go.Proofs.YtpoafgokngpglaaDoorCm
