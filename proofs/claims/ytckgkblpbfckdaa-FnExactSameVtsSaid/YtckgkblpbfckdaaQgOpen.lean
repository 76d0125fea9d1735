/- From a row's reading of an argument to a value of the printed kinds, kind by kind: what a reading says, for whole numbers, bools, strings, slices and structs, nested as they come. -/
import Derived.SizedLaws
import Derived.ChangeArms
import Derived.ChangeSame
import Derived.ChangeBare
import Derived.Deep.Slices
import Derived.Test.YtckgkblpbfckdaaQgWords
namespace Go.Proofs.YtckgkblpbfckdaaOpen
open Go Go.Proofs.YtckgkblpbfckdaaW.PrintWords

/-- What is read at type t are cells of kind d, and ok holds of the value. -/
def Fits {α : Type} (P : Program) (t : TypeId) (d : Kd α) (ok : α → Prop) : Prop :=
  d.sz = P.cellsOf t ∧ ∀ {H : Type} (enc : TypeId × Value → H) (w : World) (sp : Nat → Bool) (held : Bool) (fuel : Nat) (cs : List Value) (x : DataW H × List MemPlace),
    DataW.trod enc P w 0 sp held fuel t cs = some x → (∀ n ∈ x.1.weights P t, n ≤ reachBytes) → ∃ a, d.K w a cs ∧ ok a

theorem fits_int {P : Program} {t : TypeId} {k : IntKind} (ht : P.underlying t = some (.int k)) (hc : P.cellsOf t = 1) : Fits P t (Kd.int k) (fun n => (Lit.int k n).wf = true) :=
  ⟨hc.symm, fun enc w sp held fuel cs x h _ => by
    obtain ⟨n, rfl, _, hw⟩ := DataW.trod_int ht h
    exact ⟨n, rfl, hw⟩⟩
theorem fits_bool {P : Program} {t : TypeId} (ht : P.underlying t = some .bool) (hc : P.cellsOf t = 1) : Fits P t Kd.bool (fun _ => True) :=
  ⟨hc.symm, fun enc w sp held fuel cs x h _ => by
    obtain ⟨b, rfl, _⟩ := DataW.trod_bool ht h
    exact ⟨b, rfl, trivial⟩⟩
theorem fits_string {P : Program} {t : TypeId} (ht : P.underlying t = some .string) (hc : P.cellsOf t = 1) : Fits P t Kd.string (fun s => s.size ≤ 140737488351232) :=
  ⟨hc.symm, fun enc w sp held fuel cs x h hw => by
    obtain ⟨s, rfl, rfl, hm⟩ := DataW.trod_string ht h
    refine ⟨s, rfl, ?_⟩
    have z := hw s.data.toList.length (by simp [DataW.weights])
    rw [Array.length_toList] at z
    exact z⟩

theorem weights_mem_all {H : Type} {P : Program} {e : TypeId} : ∀ {ds : List (DataW H)} {i : Nat} {d : DataW H}, ds[i]? = some d → ∀ n ∈ d.weights P e, n ∈ DataW.weightsAll P e ds
  | [], _, _, h, _, _ => by simp at h
  | d0 :: ds, 0, d, h, n, hn => by
    simp only [List.getElem?_cons_zero, Option.some.injEq] at h
    subst h
    simp only [DataW.weightsAll, List.mem_append]
    exact .inl hn
  | d0 :: ds, i + 1, d, h, n, hn => by
    simp only [List.getElem?_cons_succ] at h
    simp only [DataW.weightsAll, List.mem_append]
    exact .inr (weights_mem_all h n hn)

theorem fits_slice {α : Type} {P : Program} {t e : TypeId} {d : Kd α} {ok : α → Prop} {B : Nat} (ht : P.underlying t = some (.slice e)) (hc : P.cellsOf t = 1) (hB : P.bytesOf e = B) (hd : Fits P e d ok) :
    Fits P t (Kd.slice e d) (fun l => l.length ≤ maxLen ∧ l.length * B ≤ 140737488351232 ∧ ∀ x ∈ l, ok x) :=
  ⟨hc.symm, fun {H} enc w sp held fuel cs x h hw => by
    rcases Go.Deep.open_slice ht h with ⟨rfl, rfl⟩ | ⟨a, len, cap, m, n, D, Pl, rfl, _, hl, hm, hmm, rfl, hx⟩
    · exact ⟨[], ⟨none, 0, rfl, Nat.le_refl _, Kd.C_nil d w⟩, by simp, by simp, by simp⟩
    · have hlm : len ≤ m := by rw [hmm]; split <;> omega
      have hwt := hw
      simp only [DataW.weights, ht, List.mem_cons, List.mem_append] at hwt
      have hz := hwt _ (.inl rfl)
      simp only [List.length_map, List.length_range, hB] at hz
      have hel : ∀ i, i < len → ∃ y, ∃ cs', w.cells? 0 (a.add (i * P.cellsOf e)) (P.cellsOf e) = some cs' ∧ d.K w y cs' ∧ ok y := fun i hi => by
        obtain ⟨cs', h1, h2⟩ := hx i (by omega)
        obtain ⟨y, hy, hok⟩ := hd.2 enc w sp held n cs' _ h2 (fun q hq => hwt q (.inr (.inl (weights_mem_all (i := i) (d := D i) (by simp [hi]) q hq))))
        exact ⟨y, cs', h1, hy, hok⟩
      have hch : ∃ f : Fin len → α, ∀ i : Fin len, ∃ cs', w.cells? 0 (a.add (i.val * P.cellsOf e)) (P.cellsOf e) = some cs' ∧ d.K w (f i) cs' ∧ ok (f i) :=
        ⟨fun i => (hel i.val i.isLt).choose, fun i => (hel i.val i.isLt).choose_spec⟩
      obtain ⟨f, hf⟩ := hch
      have hlen : (List.ofFn f).length = len := by simp
      refine ⟨List.ofFn f, ⟨some a, cap, by rw [hlen], by rw [hlen]; exact hl, hlen.trans hlen.symm, ?_, fun _ => ⟨a, rfl, ?_⟩⟩, ?_, ?_, ?_⟩
      · rw [hlen]; unfold maxLen at hm; omega
      · intro j p hj
        have hjl : j < len := by
          have := (List.getElem?_eq_some_iff.1 hj).1
          omega
        obtain ⟨cs', h1, hy, _⟩ := hf ⟨j, hjl⟩
        have hp : f ⟨j, hjl⟩ = p := by
          rw [List.getElem?_ofFn] at hj
          simpa [hjl] using hj
        rw [← hp]
        have hcl := d.K_len hy
        refine ⟨cs', hcl, hy, fun i u hu => ?_⟩
        have hil : i < P.cellsOf e := by
          have := (List.getElem?_eq_some_iff.1 hu).1
          rw [← hd.1]; omega
        have h3 := cell_of_cells h1 i u hu
        rw [Go.Deep.add_add] at h3
        rw [hd.1]
        exact h3
      · rw [hlen]; omega
      · rw [hlen]
        exact Nat.le_trans (Nat.mul_le_mul_right _ (by omega)) hz
      · intro y hy
        obtain ⟨i, hi⟩ := List.mem_ofFn.1 hy
        obtain ⟨cs', _, _, hok⟩ := hf i
        rw [← hi]
        exact hok⟩
where
  cell_of_cells {w : World} {a : Addr} {n : Nat} {cs : List Value} (h : w.cells? 0 a n = some cs) (i : Nat) (u : Value) (hu : cs[i]? = some u) : w.cell? (a.add i) = some u := by
    obtain ⟨_, hl, hc⟩ := World.cells?_some h
    have hi : i < n := by
      have := (List.getElem?_eq_some_iff.1 hu).1
      omega
    have := hc i hi
    rw [hu] at this
    exact this

/-- The fields fs, from cell o on, are cells of kind d in line. -/
structure FitsFs {α : Type} (P : Program) (o : Nat) (fs : List Field) (d : Kd α) (ok : α → Prop) : Prop where
  get : ∀ {H : Type} (enc : TypeId × Value → H) (w : World) (sp : Nat → Bool) (held : Bool) (n : Nat) (cs : List Value) (xs : List (DataW H × List MemPlace)),
    o + d.sz ≤ cs.length → xs.length = fs.length → (∀ (i : Nat) (f : Field), fs[i]? = some f → DataW.trod enc P w 0 sp held n f.type ((cs.drop f.offset).take (P.cellsOf f.type)) = xs[i]?) →
    (∀ q ∈ DataW.weightsEach P (fs.map (·.type)) (xs.map (·.1)), q ≤ reachBytes) → ∃ a, d.K w a ((cs.drop o).take d.sz) ∧ ok a

theorem fits_one {α : Type} {P : Program} {o : Nat} {f : Field} {d : Kd α} {ok : α → Prop} (ho : f.offset = o) (hd : Fits P f.type d ok) : FitsFs P o [f] d ok := by
  refine ⟨fun {H} enc w sp held n cs xs _ hl hx hw => ?_⟩
  match xs, hl with
  | [x], _ =>
    have h := hx 0 f rfl
    rw [ho] at h
    rw [hd.1]
    refine hd.2 enc w sp held n _ x h (fun q hq => hw q ?_)
    simp only [List.map_cons, List.map_nil, DataW.weightsEach, List.mem_append]
    exact .inl hq
theorem fits_cons {α β : Type} {P : Program} {o : Nat} {f : Field} {fs : List Field} {a : Kd α} {b : Kd β} {oka : α → Prop} {okb : β → Prop} (ho : f.offset = o) (hd : Fits P f.type a oka) (hr : FitsFs P (o + a.sz) fs b okb) :
    FitsFs P o (f :: fs) (Kd.pair a b) (fun x => oka x.1 ∧ okb x.2) := by
  refine ⟨fun {H} enc w sp held n cs xs hlen hl hx hw => ?_⟩
  match xs, hl with
  | x :: xs, hl =>
    have h := hx 0 f rfl
    rw [ho] at h
    have hsz : (Kd.pair a b).sz = a.sz + b.sz := rfl
    rw [hsz] at hlen
    obtain ⟨p, hp, hpo⟩ := hd.2 enc w sp held n _ x h (fun q hq => hw q (by
      simp only [List.map_cons, DataW.weightsEach, List.mem_append]
      exact .inl hq))
    obtain ⟨r, hrk, hro⟩ := hr.get enc w sp held n cs xs (by omega) (by simpa using hl) (fun i g hg => hx (i + 1) g hg) (fun q hq => hw q (by
      simp only [List.map_cons, DataW.weightsEach, List.mem_append]
      exact .inr hq))
    refine ⟨(p, r), ⟨(cs.drop o).take a.sz, (cs.drop (o + a.sz)).take b.sz, ?_, ?_, hrk⟩, hpo, hro⟩
    · rw [hsz, List.take_add, List.drop_drop]
    · rw [hd.1]; exact hp
theorem fits_iso {α β : Type} {P : Program} {o : Nat} {fs : List Field} {d : Kd α} {ok : α → Prop} (f : β → α) (g : α → β) (hfg : ∀ x, f (g x) = x) (h : FitsFs P o fs d ok) : FitsFs P o fs (Kd.iso d f) (fun y => ok (f y)) := by
  refine ⟨fun {H} enc w sp held n cs xs hlen hl hx hw => ?_⟩
  obtain ⟨a, ha, hoa⟩ := h.get enc w sp held n cs xs hlen hl hx hw
  refine ⟨g a, ?_, ?_⟩
  · show d.K w (f (g a)) _
    rw [hfg]
    exact ha
  · show ok (f (g a))
    rw [hfg]
    exact hoa
theorem fits_struct {α : Type} {P : Program} {t : TypeId} {fs : Array Field} {d : Kd α} {ok : α → Prop} (ht : P.underlying t = some (.struct fs)) (hsz : d.sz = P.cellsOf t) (h : FitsFs P 0 fs.toList d ok) : Fits P t d ok :=
  ⟨hsz, fun enc w sp held fuel cs x hx hw => by
    obtain ⟨xs, n, _, rfl, hcl, hxl, hf⟩ := DataW.trod_struct ht hx
    obtain ⟨a, ha, hoa⟩ := h.get enc w sp held n cs xs (by rw [hsz]; omega) (by simpa using hxl) (fun i f hi => hf i f (by simpa using hi)) (fun q hq => hw q (by
      simp only [DataW.weights, ht]
      exact hq))
    refine ⟨a, ?_, hoa⟩
    rwa [List.drop_zero, List.take_of_length_le (by omega)] at ha⟩

theorem Fits.mono {α : Type} {P : Program} {t : TypeId} {d : Kd α} {ok ok' : α → Prop} (h : Fits P t d ok) (hk : ∀ x, ok x → ok' x) : Fits P t d ok' :=
  ⟨h.1, fun enc w sp held fuel cs x hx hw => by
    obtain ⟨a, ha, hoa⟩ := h.2 enc w sp held fuel cs x hx hw
    exact ⟨a, ha, hk a hoa⟩⟩
/-- An argument's weights are among all weights. -/
theorem weights_arg {H : Type} {P : Program} {ts : List TypeId} {ds : List (DataW H)} (h : (DataW.weightsEach P ts ds).all (· ≤ reachBytes) = true) {j : Nat} {t : TypeId} {d : DataW H} (ht : ts[j]? = some t) (hd : ds[j]? = some d) : ∀ n ∈ d.weights P t, n ≤ reachBytes := fun n hn => by
  have := List.all_eq_true.1 h _ (DataW.weights_mem_each ht hd n hn)
  simpa using this

/-- An argument opened: its value's cells are of kind d. -/
theorem Fits.arg {α : Type} {P : Program} {t : TypeId} {d : Kd α} {ok : α → Prop} (h : Fits P t d ok) {H : Type} {enc : TypeId × Value → H} {w : World} {sp : Nat → Bool} {held : Bool} {v : Value} {x : DataW H} {ps : List MemPlace}
    (hx : DataW.Trod enc P w 0 sp held t v x ps) (hw : ∀ n ∈ x.weights P t, n ≤ reachBytes) : ∃ a, d.K w a v.cells.toList ∧ ok a := by
  obtain ⟨fuel, hf⟩ := hx
  exact h.2 enc w sp held fuel _ _ hf hw
end Go.Proofs.YtckgkblpbfckdaaOpen
