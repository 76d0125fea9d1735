/- What a listed variable's datum says of the world: strings, whole numbers, slices of these, slices of slices. -/
import Derived.SizedLaws
import Derived.ChangeArms
import Derived.Deep.Slices
import Derived.Lib.LaidPrint
import Derived.Test.YtpoafgokngpglaaDoorWWords
namespace Go.Proofs.YtpoafgokngpglaaDoorRd
open Go Go.Proofs.YtpoafgokngpglaaDoorW.PrintWords
/-- What reads xs the datum at type t are the cells of this very value. -/
def Reads {α : Type} (P : Program) (t : TypeId) (d : Kd α) (dat : DataW Unit) (a : α) : Prop :=
  d.sz = P.cellsOf t ∧ ∀ (w : World) (fuel : Nat) (cs : List Value) (p : List MemPlace), DataW.trod (fun _ => ()) P w 0 (fun _ => true) false fuel t cs = some (dat, p) → d.K w a cs
theorem reads_int {P : Program} {t : TypeId} {k : IntKind} {n : Int} (ht : P.underlying t = some (.int k)) (hc : P.cellsOf t = 1) : Reads P t (Kd.int k) (.lit (.int k n)) n :=
  ⟨hc.symm, fun w fuel cs p h => by
    obtain ⟨m, rfl, hx, _⟩ := DataW.trod_int ht h
    have := congrArg Prod.fst hx
    simp only [DataW.lit.injEq, Lit.int.injEq, true_and] at this
    subst this
    rfl⟩
theorem reads_string {P : Program} {t : TypeId} {s : ByteArray} (ht : P.underlying t = some .string) (hc : P.cellsOf t = 1) : Reads P t Kd.string (.lit (.string s.data.toList)) s :=
  ⟨hc.symm, fun w fuel cs p h => by
    obtain ⟨s', rfl, hx, _⟩ := DataW.trod_string ht h
    have := congrArg Prod.fst hx
    simp only [DataW.lit.injEq, Lit.string.injEq] at this
    have e : s'.data = s.data := Array.toList_inj.1 this.symm
    have : s' = s := by
      cases s'
      cases s
      simp_all
    subst this
    rfl⟩
theorem reads_nil {α : Type} {P : Program} {t e : TypeId} {d : Kd α} (ht : P.underlying t = some (.slice e)) (hc : P.cellsOf t = 1) : Reads P t (Kd.slice e d) .nil ([] : List α) :=
  ⟨hc.symm, fun w fuel cs p h => by
    rcases Go.Deep.open_slice ht h with ⟨rfl, _⟩ | ⟨a, len, cap, m, n, D, Pl, rfl, _, _, _, _, hx, _⟩
    · exact ⟨none, 0, rfl, Nat.le_refl _, Kd.C_nil d w⟩
    · cases hx⟩
theorem reads_slice {α : Type} {P : Program} {t e : TypeId} {d : Kd α} {ds : List (DataW Unit)} {xs : List α} (ht : P.underlying t = some (.slice e)) (hc : P.cellsOf t = 1) (hs : d.sz = P.cellsOf e) (hl : ds.length = xs.length)
    (h : ∀ (i : Nat) (x : DataW Unit) (a : α), ds[i]? = some x → xs[i]? = some a → Reads P e d x a) : Reads P t (Kd.slice e d) (.slice ds []) xs :=
  ⟨hc.symm, fun w fuel cs p hr => by
    rcases Go.Deep.open_slice ht hr with ⟨_, hx⟩ | ⟨a, len, cap, m, n, D, Pl, rfl, _, hcap, hm, hmm, hx, hel⟩
    · cases hx
    have e0 := congrArg Prod.fst hx
    simp only [DataW.slice.injEq] at e0
    have hlen : xs.length = len := by
      have := congrArg List.length e0.1
      simp at this
      omega
    have hlm : len ≤ m := by rw [hmm]; split <;> omega
    refine ⟨some a, cap, by rw [hlen], by rw [hlen]; exact hcap, rfl, ?_, fun _ => ⟨a, rfl, ?_⟩⟩
    · unfold maxLen at hm; omega
    · intro j q hj
      have hjl : j < len := by
        have := (List.getElem?_eq_some_iff.1 hj).1
        omega
      obtain ⟨cs', h1, h2⟩ := hel j (by omega)
      have hD : ds[j]? = some (D j) := by
        rw [e0.1]
        simp [hjl]
      have hy : d.K w q cs' := (h j _ _ hD hj).2 w n cs' _ h2
      have hcl := d.K_len hy
      refine ⟨cs', hcl, hy, fun i u hu => ?_⟩
      obtain ⟨_, hl2, hcc⟩ := World.cells?_some h1
      have hi : i < P.cellsOf e := by
        have := (List.getElem?_eq_some_iff.1 hu).1
        omega
      have h3 := hcc i hi
      rw [hu] at h3
      rw [Go.Deep.add_add] at h3
      rw [hs]
      exact h3⟩
/-- A package variable that is a slice, and reads xs the datum. -/
theorem var_slice {α : Type} {P : Program} {w : World} {n : String} {g : Nat} {t e : TypeId} {d : Kd α} {dat : DataW Unit} {xs : List α} (hn : P.globalNamed n = some g) (hy : (P.globals[g]?).map (·.type) = some t) (hv : Lib.VarReads P w n dat) (hr : Reads P t (Kd.slice e d) dat xs) :
    ∃ A c, w.cell? ⟨g, 0, none⟩ = some (.slice A xs.length c) ∧ Kd.C d w A xs.length xs := by
  obtain ⟨g', t', cs, fuel, p, hg, hty, hvar, hd⟩ := hv
  obtain rfl := Option.some.inj (hn.symm.trans hg)
  obtain rfl := Option.some.inj (hy.symm.trans hty)
  obtain ⟨A, c, hcs, _, hC⟩ := hr.2 w fuel cs.toList p hd
  refine ⟨A, c, ?_, hC⟩
  rw [World.var?_cell hg hvar 0, ← Array.getElem?_toList, hcs]
  rfl
end Go.Proofs.YtpoafgokngpglaaDoorRd
