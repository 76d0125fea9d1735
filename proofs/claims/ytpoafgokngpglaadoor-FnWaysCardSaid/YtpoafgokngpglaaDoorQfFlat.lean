/- Kinds of elements whose cells hold all of them (no row inside): a row of the call's own, by its cells alone. -/
import Derived.Test.YtpoafgokngpglaaDoorQfWords
import Derived.Test.YtpoafgokngpglaaDoorQfCopy
namespace Go.Proofs.YtpoafgokngpglaaDoorFlat
open Go Go.RowKit Go.Proofs.YtpoafgokngpglaaDoorW.PrintWords Go.Proofs.YtpoafgokngpglaaDoorCopy
set_option linter.unusedVariables false
/-- A kind whose elements are their cells. -/
structure Flat {α : Type} (d : Kd α) (enc : α → List Value) : Prop where
  len : ∀ x, (enc x).length = d.sz
  one : ∀ x, ∀ v ∈ enc x, v.oneCell' = true
  m : ∀ (w : World) (base : Nat) (ok : Nat → Prop) (x : α) (cs : List Value), d.M w base ok x cs ↔ cs = enc x
  k : ∀ (w : World) (x : α) (cs : List Value), d.K w x cs ↔ cs = enc x
section
variable {α : Type} {d : Kd α} {enc : α → List Value}
theorem Flat.flen (F : Flat d enc) : ∀ xs : List α, (xs.flatMap enc).length = xs.length * d.sz
  | [] => by simp
  | x :: r => by rw [List.flatMap_cons, List.length_append, F.len, F.flen r, List.length_cons, Nat.add_mul, Nat.one_mul, Nat.add_comm]
theorem Flat.fone (F : Flat d enc) (xs : List α) : ∀ v ∈ xs.flatMap enc, v.oneCell' = true := by
  intro v hv
  obtain ⟨x, _, hx⟩ := List.mem_flatMap.1 hv
  exact F.one x v hx
theorem Flat.ftake (F : Flat d enc) (xs : List α) (i : Nat) (h : i ≤ xs.length) : (xs.flatMap enc).take (i * d.sz) = (xs.take i).flatMap enc := by
  have e : xs.flatMap enc = (xs.take i).flatMap enc ++ (xs.drop i).flatMap enc := by rw [← List.flatMap_append, List.take_append_drop]
  rw [e, List.take_left' (by rw [F.flen, List.length_take, Nat.min_eq_left h])]
theorem Flat.fdrop (F : Flat d enc) (xs : List α) (i : Nat) (h : i ≤ xs.length) : (xs.flatMap enc).drop (i * d.sz) = (xs.drop i).flatMap enc := by
  have e : xs.flatMap enc = (xs.take i).flatMap enc ++ (xs.drop i).flatMap enc := by rw [← List.flatMap_append, List.take_append_drop]
  rw [e, List.drop_left' (by rw [F.flen, List.length_take, Nat.min_eq_left h])]
theorem reps_flat {R : α → List Value → Prop} (F : Flat d enc) (hR : ∀ x cs, R x cs ↔ cs = enc x) : ∀ (xs : List α) (cs : List Value), Reps R d.sz xs cs ↔ cs = xs.flatMap enc
  | [], cs => by
    constructor
    · intro h
      have := h.1
      simpa using this
    · rintro rfl
      exact Reps.none _ _
  | x :: r, cs => by
    constructor
    · rintro ⟨h1, h2⟩
      have h1' : cs.length = d.sz + r.length * d.sz := by rw [h1, List.length_cons, Nat.add_mul, Nat.one_mul, Nat.add_comm]
      have e0 := (hR _ _).1 (h2 0 x rfl)
      rw [Nat.zero_mul, List.drop_zero] at e0
      have er := (reps_flat F hR r (cs.drop d.sz)).1 ⟨by rw [List.length_drop]; omega, fun j p hj => by
        have := h2 (j + 1) p hj
        rw [Nat.add_mul, Nat.one_mul, Nat.add_comm, ← List.drop_drop] at this
        exact this⟩
      rw [List.flatMap_cons, ← er, ← e0, List.take_append_drop]
    · rintro rfl
      have er := (reps_flat F hR r (r.flatMap enc)).2 rfl
      refine ⟨by rw [F.flen], fun j p hj => ?_⟩
      rw [List.flatMap_cons]
      match j with
      | 0 =>
        simp only [List.getElem?_cons_zero, Option.some.injEq] at hj
        subst hj
        rw [Nat.zero_mul, List.drop_zero, List.take_left' (F.len _)]
        exact (hR _ _).2 rfl
      | j + 1 =>
        have := er.2 j p (by simpa using hj)
        rw [Nat.add_mul, Nat.one_mul, Nat.add_comm, ← List.drop_drop, List.drop_left' (F.len _)]
        exact this
theorem Flat.R (F : Flat d enc) {e : Nat} {w : World} {base : Nat} {ok : Nat → Prop} {v : Value} {xs : List α} : d.R e w base ok v xs ↔ (∀ k, v.ownBlock = some k → ok k) ∧ w.ownsRow base e d.sz v xs.length (xs.flatMap enc) := by
  constructor
  · rintro ⟨h0, inner, ho, hr⟩
    rw [(reps_flat F (fun x cs => F.m _ _ _ x cs) xs inner).1 hr] at ho
    exact ⟨h0, ho⟩
  · rintro ⟨h0, ho⟩
    exact ⟨h0, _, ho, (reps_flat F (fun x cs => F.m _ _ _ x cs) xs _).2 rfl⟩
/-- What a row that is read holds, cell by cell. -/
theorem Flat.C (F : Flat d enc) {w : World} {A : Option Addr} {n : Nat} {xs : List α} (h : d.C w A n xs) : xs.length = n ∧ (0 < n → ∃ ad, A = some ad ∧ ∀ j u, (xs.flatMap enc)[j]? = some u → w.cell? (ad.add j) = some u) := by
  obtain ⟨h1, _, h3⟩ := h
  refine ⟨h1, fun hn => ?_⟩
  obtain ⟨ad, e, hc⟩ := h3 hn
  refine ⟨ad, e, fun j u hj => ?_⟩
  have hs : 0 < d.sz := by
    rcases Nat.eq_zero_or_pos d.sz with h0 | h0
    · exfalso
      have := (List.getElem?_eq_some_iff.1 hj).1
      rw [F.flen, h0, Nat.mul_zero] at this
      omega
    · exact h0
  have hq : j / d.sz < xs.length := by
    have := (List.getElem?_eq_some_iff.1 hj).1
    rw [F.flen] at this
    exact Nat.div_lt_of_lt_mul (by rw [Nat.mul_comm]; exact this)
  obtain ⟨c, hl, hk, hcc⟩ := hc (j / d.sz) _ (List.getElem?_eq_getElem hq)
  have e2 := (F.k _ _ _).1 hk
  have hm : j / d.sz * d.sz + j % d.sz = j := Nat.div_add_mod' j d.sz
  have := hcc (j % d.sz) u (by
    rw [e2, ← hj]
    have t : (xs.flatMap enc)[j]? = ((xs.flatMap enc).drop (j / d.sz * d.sz))[j % d.sz]? := by rw [List.getElem?_drop, hm]
    rw [t, F.fdrop _ _ (by omega), List.drop_eq_getElem_cons hq, List.flatMap_cons, List.getElem?_append_left (by rw [F.len]; exact Nat.mod_lt _ hs)])
  rw [hm] at this
  exact this
/-- A row of the call's own with elements: its block. -/
theorem Flat.open_ (F : Flat d enc) {e g n c base : Nat} {w : World} {ok : Nat → Prop} {xs : List α} (h : d.R e w base ok (.slice (some ⟨g, 0, none⟩) n c) xs) :
    xs.length = n ∧ n ≤ c ∧ c ≤ maxLen ∧ base ≤ g ∧ ok g ∧ ∃ cur : Array Value, w.heap[g]? = some (.cells cur e (0, 0)) ∧ cur.size = c * d.sz ∧ cur.toList.take (n * d.sz) = xs.flatMap enc := by
  obtain ⟨h0, h1, h2⟩ := F.R.1 h
  have h00 := h0 g rfl
  rcases h2 with ⟨e0, _⟩ | ⟨g', cap, cur, e0, hb, hh, r1, r2, r3, r4⟩
  · cases e0
  · injection e0 with e1 e2 e3
    injection e1 with e1
    injection e1 with e1
    subst e1 e3 e2
    exact ⟨rfl, r1, r2, hb, h00, cur, hh, r3, r4⟩
theorem Flat.mk_ (F : Flat d enc) {e g c base : Nat} {w : World} {ok : Nat → Prop} {xs : List α} (hok : ok g) (hb : base ≤ g) (h1 : xs.length ≤ c) (h2 : c ≤ maxLen) {cur : Array Value} (hh : w.heap[g]? = some (.cells cur e (0, 0))) (hs : cur.size = c * d.sz) (ht : cur.toList.take (xs.length * d.sz) = xs.flatMap enc) :
    d.R e w base ok (.slice (some ⟨g, 0, none⟩) xs.length c) xs :=
  F.R.2 ⟨fun k hk => by
    simp only [Value.ownBlock, Option.some.injEq] at hk
    exact hk ▸ hok, F.flen xs, .inr ⟨g, c, cur, rfl, hb, hh, h1, h2, hs, ht⟩⟩
end
end Go.Proofs.YtpoafgokngpglaaDoorFlat
