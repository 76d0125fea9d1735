/- strings.Split and impl.readNumber over the shelf's contracts: what they tell, and what of the world they need. -/
import Derived.Test.YtpoafgokngpglaaDoorProg
import Derived.Test.YtpoafgokngpglaaDoorQfWords
import Derived.Test.YtpoafgokngpglaaDoorQfTm
import Derived.Test.YtpoafgokngpglaaDoorShelf
import Derived.Laws.OwnMore
import Derived.Lib.SplitLaws
import Derived.Lib.ParseIntB
import Derived.Lib.ParseIntBTie
namespace Go.Proofs.YtpoafgokngpglaaDoorPw
open Go Go.RowKit Go.Proofs.YtpoafgokngpglaaDoorW.PrintWords
/-- A cell that holds an interface's value. -/
def Err (g : Nat) (w : World) : Prop := ∃ ev, w.cell? ⟨g, 0, none⟩ = some ev ∧ (ev = .nilIface ∨ ∃ te pe, ev = .iface te pe)
/-- The powers of ten; a number at MaxLen; two errors. -/
def TabP (w : World) : Prop := YtpoafgokngpglaaDoorTm.TabG w ∧ (∃ m : Int, w.cell? ⟨3, 0, none⟩ = some (.int .i64 m)) ∧ Err 4 w ∧ Err 5 w
theorem Err_below {g : Nat} {w w' : World} (h : Err g w) (hb : Below w.heap.size w w') : Err g w' := by
  obtain ⟨ev, h1, h2⟩ := h
  exact ⟨ev, (Below.cell hb (World.block_lt_of_cell? w _ h1)).trans h1, h2⟩
theorem TabP_below {w w' : World} (h : TabP w) (hb : Below w.heap.size w w') : TabP w' := by
  obtain ⟨h1, ⟨m, h2⟩, h3, h4⟩ := h
  exact ⟨YtpoafgokngpglaaDoorTm.TabG_below h1 hb, ⟨m, (Below.cell hb (World.block_lt_of_cell? w _ h2)).trans h2⟩, Err_below h3 hb, Err_below h4 hb⟩
theorem TabP_G {w : World} (h : TabP w) : YtpoafgokngpglaaDoorTm.TabG w := h.1
theorem below_bytes (w : World) (e : TypeId) (s : ByteArray) : Below w.heap.size w (Lib.bytesWorld w e s) := by
  refine ⟨?_, ?_, ?_, ?_, fun k hk => Lib.bytesWorld_at_old w e s k hk⟩
  · simp [Lib.bytesWorld, World.freeze, World.alloc, World.drew, -World.alloc_eq, -World.drew_eq]
  · simp [Lib.bytesWorld, World.freeze, World.alloc, World.drew, -World.alloc_eq, -World.drew_eq]
  · simp [Lib.bytesWorld, World.freeze, World.alloc, World.drew, -World.alloc_eq, -World.drew_eq]
  · rw [Lib.bytesWorld_size]
    omega
def splitF (a0 a1 : ByteArray) : Option (List ByteArray) := if a0.size < 4294967281 then (if 1 ≤ a1.size then (some (Lib.splitB a1 0 (Lib.countB a0 a1) a0)) else (none)) else (none)
theorem split_calls (a0 a1 : ByteArray) (r : List ByteArray) (w : World) (hG : TabP w) (h : splitF a0 a1 = some r) :
    Calls Tryd.prog 64 #[.string a0, .string a1] w fun e w' => ∃ v0_ : Value, e = .returned (v0_) ∧ Kd.R Kd.string 9 w' w.heap.size (fun _ => True) v0_ r ∧ Below w.heap.size w w' := by
  unfold splitF at h
  split at h
  · rename_i h0
    split at h
    · rename_i h1
      obtain rfl := Option.some.inj h
      obtain ⟨_, ⟨m, hm⟩, _, _⟩ := hG
      have hl : (Lib.splitB a1 0 (Lib.countB a0 a1) a0).length = Lib.countB a0 a1 + 1 := Lib.splitB_all a1 h1 0 _ a0 rfl
      refine (Tryd.strings_Split a0 a1 m w h0 hm h1).mono ?_
      rintro e w' ⟨rfl, rfl⟩
      refine ⟨_, rfl, ?_, below_alloc (Below.refl _ _) _⟩
      generalize Lib.splitB a1 0 (Lib.countB a0 a1) a0 = xs at hl ⊢
      rw [← hl]
      have hn : xs.length ≤ maxLen := by
        rw [hl]
        have := Lib.countB_le a1 h1 _ a0 (Nat.le_refl _)
        unfold maxLen
        omega
      have ho := World.ownsRow_lit (base := w.heap.size) (e := 9) (size := 1) w (xs.map Value.string).toArray xs.length (Nat.le_refl _) hn (by simp)
      exact Kd.R_of_own (enc := Value.string) (h1 := fun _ => rfl) (by simpa [encs] using ho) (fun _ _ => trivial)
    · cases h
  · cases h
theorem parse_le {l : List UInt8} {v : Int} (h : Lib.parseIntB 64 l = .ok v) : v ≤ 9223372036854775807 := by
  have := (Lib.parseIntB_bounds h).2
  omega
/-- What readNumber tells of a text. -/
def numF (t : ByteArray) : Int × Bool :=
  match Lib.parseIntB 64 t.data.toList with
  | .ok v => (v, if 0 ≤ v then (if t.size ≤ 4 then decide ((⟨(Lib.itoa v).toArray⟩ : ByteArray).toList = t.toList) else false) else false)
  | .syntax => (0, false)
  | .range => (Lib.intSat 64 t.data.toList, false)
end Go.Proofs.YtpoafgokngpglaaDoorPw
