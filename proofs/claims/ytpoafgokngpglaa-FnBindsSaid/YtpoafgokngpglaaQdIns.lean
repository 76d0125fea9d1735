/- Laws for slices.Insert of one element at elements whose cells hold all of them: stretches of cells of a block of the call's own. -/
import Derived.Test.YtpoafgokngpglaaQdFlat
import Derived.Lib.Overlaps
import Derived.Lib.AppendZerosOnto
import Derived.Deep.AppendSrc
import Derived.Laws.IdiomCopy
namespace Go.Proofs.YtpoafgokngpglaaIns
open Go Go.RowKit Go.Proofs.YtpoafgokngpglaaW.PrintWords Go.Proofs.YtpoafgokngpglaaCopy Go.Proofs.YtpoafgokngpglaaFlat
set_option linter.unusedVariables false
theorem ins_step_copy {P : Program} {ops : Array Oper} {o : Oper} {a : Act} {w : World} {K : Act → World → Prop} {Q : Exit → Act → World → Prop} {E : Prop}
    (hg : o.guard = none) (d x : Operand) (dT sT : TypeId) (hop : o.op = Op.call { callee := Callee.builtin Builtin.copy, args := #[d, x], argTypes := #[dT, sT] })
    (v u : Value) (hd : a.eval d = v) (hx : a.eval x = u) {v' : Value} {w' : World} (hr : (Builtin.copy_ #[dT, sT] o.type #[v, u]).run P w = .ok v' w') (hK : K (a.put o.dst v') w') :
    if Region.wanted o (yielded ops a.tmps) = true then Oper.wp P o a w K Q else E := by
  rw [if_pos (by simp [Region.wanted, hg])]
  unfold Oper.wp
  simp [execOp, hop, resolve, invoke, builtin, hd, hx, hr, Result.andThen]
  exact hK
theorem ins_list_copy {P : Program} {w : World} {ops : Array Oper} {rest : List Oper} {o : Oper} {a : Act} {Q : Exit → Act → World → Prop} (hgd : o.guard = none) (d s : Operand) (t t' : TypeId)
    (ho : o.op = .call { callee := .builtin .copy, args := #[d, s], argTypes := #[t, t'] }) (v u : Value) (hd : a.eval d = v) (hs : a.eval s = u) {v' : Value} {w' : World}
    (hr : (Builtin.copy_ #[t, t'] o.type #[v, u]).run P w = .ok v' w') (h : wpList P ops Q rest (a.put o.dst v') w') : wpList P ops Q (o :: rest) a w :=
  wpList_plain hgd fun K hK => by
    unfold Oper.wp execOp
    simp only [ho, resolve, invoke, builtin, Sem.run_bind, Sem.run_pure, Result.andThen_ok, List.map_toArray, List.map_cons, List.map_nil, hd, hs, hr]
    exact hK _ _ h
theorem over_insert {cur : Array Value} {A B V : List Value} {p q s : Nat} (hA : A.length = p) (hV : V.length = s) (hB : B.length = q) (ht : cur.toList.take (p + q) = A ++ B) (hs : p + s + q ≤ cur.size) :
    (over (over cur (p + s) B) p V).toList.take (p + s + q) = A ++ V ++ B := by
  subst hA hV hB
  have hl : cur.toList.length = cur.size := by simp
  have e1 : cur.toList.take A.length = A := by
    have := congrArg (List.take A.length) ht
    rwa [List.take_take, Nat.min_eq_left (by omega), List.take_left' rfl] at this
  rw [over_toList _ _ _ (by rw [over_size]; omega), over_toList _ _ _ (by omega)]
  have e2 : (cur.toList.take (A.length + V.length) ++ B ++ cur.toList.drop (A.length + V.length + B.length)).take A.length = A := by
    rw [List.append_assoc, List.take_append_of_le_length (by rw [List.length_take]; omega), List.take_take, Nat.min_eq_left (by omega), e1]
  have e3 : (cur.toList.take (A.length + V.length) ++ B ++ cur.toList.drop (A.length + V.length + B.length)).drop (A.length + V.length) = B ++ cur.toList.drop (A.length + V.length + B.length) := by
    rw [List.append_assoc, List.drop_left' (by rw [List.length_take]; omega)]
  rw [e2, e3, ← List.append_assoc]
  exact List.take_left' (by simp [List.length_append, Nat.add_assoc])
theorem over_end {cur : Array Value} {A V : List Value} {p s : Nat} (hA : A.length = p) (hV : V.length = s) (ht : cur.toList.take p = A) (hs : p + s ≤ cur.size) : (over cur p V).toList.take (p + s) = A ++ V := by
  subst hA hV
  rw [over_toList _ _ _ (by omega), ht]
  exact List.take_left' (by simp [List.length_append])
theorem cell_of {w : World} {g e m : Nat} {cur : Array Value} {L : List Value} (h : w.heap[g]? = some (.cells cur e (0, 0))) (ht : cur.toList.take m = L) {j : Nat} {v : Value} (hj : L[j]? = some v) : w.cell? ⟨g, j, none⟩ = some v := by
  subst ht
  rw [List.getElem?_take] at hj
  split at hj
  · simp [World.cell?, h]
    simpa using hj
  · cases hj
theorem some_of {w : World} {g e j : Nat} {cur : Array Value} (h : w.heap[g]? = some (.cells cur e (0, 0))) (hj : j < cur.size) : (w.cell? ⟨g, j, none⟩).isSome = true := by
  simp [World.cell?, h, hj]
theorem kept_over {g : Nat} {a : World} {S : Nat → Prop} (hg : S g ∨ a.heap.size ≤ g) : ∀ (vs : List Value) (w : World) (o : Nat), Kept a w S → Kept a (w.setCells g o vs) S
  | [], _, _, h => h
  | v :: r, w, o, h => kept_over hg r _ (o + 1) (h.setCell hg v)
theorem cut_from_some {P : Program} (t e : TypeId) (kl : IntKind) {i : TypeInfo} (ht : P.underlying t = some (.slice e)) (hi : P.info? e = some i) (size : Nat) (hsz : i.size = size) (g o n c : Nat) (j : Nat) (x : Int) (hx : x = (j : Int)) (hm : j ≤ n) (hc : j < c) :
    ∀ W : World, (Instr.slice t (.slice (some ⟨g, o, none⟩) n c) (some (.int kl x)) none none).run P W = .ok (.slice (some ⟨g, o + j * size, none⟩) (n - j) (c - j)) W := by
  intro W
  subst hx
  rw [cut_from t e kl ht hi size hsz _ n c (j : Int) (by omega) (by omega)]
  have hne : ¬ c = j := by omega
  simp only [Int.toNat_natCast, if_neg hne, Option.map_some, Addr.add_lit]
theorem cut_cap_to {P : Program} (t e : TypeId) (kh : IntKind) {i : TypeInfo} (ht : P.underlying t = some (.slice e)) (hi : P.info? e = some i) (A : Option Addr) (n c : Nat) (x : Int) (j : Nat) (hx : x = (j : Int)) (hm : j ≤ c) :
    ∀ W : World, (Instr.slice t (.slice A n c) none (some (.int kh x)) none).run P W = .ok (.slice A j c) W := by
  intro W
  subst hx
  have hel : P.elem t = e := by simp [Program.elem, ht]
  have hu : P.underlying t = some (.slice (P.elem t)) := by rw [hel]; exact ht
  have ha : (A.map fun x => x.add 0) = A := by cases A <;> simp [Addr.add]
  rw [run_slice_h W t A n c hu kh (j : Int) (by omega) (by omega), hel]
  simp [sizeOf, typeInfo, hi, sliced, Result.andThen, ha]
theorem shape_of {w : World} {g e : Nat} {cur : Array Value} (h : w.heap[g]? = some (.cells cur e (0, 0))) : w.shape? g = some (e, cur.size) := by
  simp [World.shape?, h]
end Go.Proofs.YtpoafgokngpglaaIns
