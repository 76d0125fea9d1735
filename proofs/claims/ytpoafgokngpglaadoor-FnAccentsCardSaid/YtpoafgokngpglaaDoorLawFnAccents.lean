/- FnAccents: the row, and its card tied to the program's text. -/
import Derived.Test.YtpoafgokngpglaaDoorCards
import Derived.Test.YtpoafgokngpglaaDoorTie
import Derived.Test.YtpoafgokngpglaaDoorPureFnAccents
import Derived.Test.YtpoafgokngpglaaDoorRd
import Derived.WalkKit
import Derived.ProofKit
import Derived.OpenShut
import Derived.ChangeVars
import Derived.ChangeSame
import Derived.Below
import Derived.Carry
import Derived.OpenVars
import Derived.Deep.DeepWitnessRowRef
import Derived.Lib.LaidPrint
import Derived.SizedLaws
import Derived.Test.YtpoafgokngpglaaDoorWSized
namespace Go.Proofs.YtpoafgokngpglaaDoor.fnAccents
open Go.ChangeShapes Go.WideShapes Go.ChangeAt Go.RowKit Go.Proofs.YtpoafgokngpglaaDoorW.PrintWords Go.Proofs.YtpoafgokngpglaaDoorRd Go.Proofs.YtpoafgokngpglaaDoorCm
set_option linter.unusedVariables false

theorem own : ownKnob Tryd.prog.godebug = none := by kernel_rfl
theorem laidOut : laidOutB Tryd.prog = true := by kernel_rfl

/-- What the row's list gives. -/
theorem table {W : World} (h : laidMetH Tryd.prog Rows.fnAccentsRow.laid W) : TabF W := by
  have h' : laidMet Tryd.prog Rows.fnAccentsRow.laid W := h
  have c9 : Tryd.prog.cellsOf 9 = 1 := by kernel_rfl
  have c2 : Tryd.prog.cellsOf 2 = 1 := by kernel_rfl
  have c88 : Tryd.prog.cellsOf 88 = 1 := by kernel_rfl
  have c60 : Tryd.prog.cellsOf 60 = 1 := by kernel_rfl
  have c111 : Tryd.prog.cellsOf 111 = 1 := by kernel_rfl
  have ints : ∀ (l : List Int), Reads Tryd.prog 60 (Kd.slice 2 (Kd.int .i64)) (.slice (l.map fun n => .lit (.int .i64 n)) []) l := fun l =>
    reads_slice Tryd.underlying60 c60 c2.symm (by simp) (fun i x a hx ha => by
      rw [List.getElem?_map, ha] at hx
      obtain rfl := Option.some.inj hx
      exact reads_int Tryd.underlying2 c2)
  have r1 : Reads Tryd.prog 88 (Kd.slice 9 Kd.string) Rows.laid_loop_example_g00523_impl_plainLetters lets :=
    reads_slice Tryd.underlying88 c88 c9.symm rfl (fun i x a hx ha => by
      have hi : i < 4 := (List.getElem?_eq_some_iff.1 ha).1
      rcases (show i = 0 ∨ i = 1 ∨ i = 2 ∨ i = 3 by omega) with rfl | rfl | rfl | rfl <;> cases hx <;> cases ha
      · exact reads_string (s := ⟨#[]⟩) Tryd.underlying9 c9
      · exact reads_string (s := ⟨#[97, 101, 111]⟩) Tryd.underlying9 c9
      · exact reads_string (s := ⟨#[97, 101, 111]⟩) Tryd.underlying9 c9
      · exact reads_string (s := ⟨#[97, 111, 117]⟩) Tryd.underlying9 c9)
  have r2 : Reads Tryd.prog 111 (Kd.slice 60 (Kd.slice 2 (Kd.int .i64))) Rows.laid_loop_example_g00523_impl_accented accd :=
    reads_slice Tryd.underlying111 c111 c60.symm rfl (fun i x a hx ha => by
      have hi : i < 4 := (List.getElem?_eq_some_iff.1 ha).1
      rcases (show i = 0 ∨ i = 1 ∨ i = 2 ∨ i = 3 by omega) with rfl | rfl | rfl | rfl <;> cases hx <;> cases ha
      · exact reads_nil Tryd.underlying60 c60
      · exact ints [224, 232, 242]
      · exact ints [225, 233, 243]
      · exact ints [228, 246, 252])
  obtain ⟨A1, k1, h1, h2⟩ := var_slice (g := 1) (t := 88) (by kernel_rfl) (by kernel_rfl) (Lib.laidMet.reads h' (List.mem_of_getElem? (i := 0) rfl)) r1
  obtain ⟨A2, k2, h3, h4⟩ := var_slice (g := 2) (t := 111) (by kernel_rfl) (by kernel_rfl) (Lib.laidMet.reads h' (List.mem_of_getElem? (i := 1) rfl)) r2
  have r3 : Reads Tryd.prog 60 (Kd.slice 2 (Kd.int .i64)) Rows.laid_loop_example_g00523_impl_accents [0, 96, 39, 34] := ints [0, 96, 39, 34]
  obtain ⟨A3, k3, h5, h6⟩ := var_slice (g := 0) (t := 60) (by kernel_rfl) (by kernel_rfl) (Lib.laidMet.reads h' (List.mem_of_getElem? (i := 2) rfl)) r3
  exact ⟨⟨A1, k1, A2, k2, h1, h2, h3, h4⟩, A3, k3, h5, h6⟩

def IsRow (k : IntKind) (w : World) (a : Option Addr) (len cap : Nat) (zs : List Int) : Prop :=
  (a = none ∧ len = 0 ∧ cap = 0 ∧ zs = []) ∨
  ∃ x, a = some x ∧ len ≤ cap ∧ cap ≤ maxLen ∧ zs.length = cap ∧ (∀ i, i < zs.length → w.cell? (x.add i) = some (.int k (zs.getD i 0))) ∧ ∀ n ∈ zs, (Lit.int k n).wf = true
/-- A world for the witness: the settled one, the tables' variables over blocks of their own behind all that is settled. -/
noncomputable def settled (os : Os) : World := World.holding Tryd.prog os ⟨#[], #[], []⟩
noncomputable def laidHeap (os : Os) : Array Obj :=
  Array.push (Array.push (Array.push (Array.push (Array.push (Array.push ((((settled os).heap.modify 1 (fun o => match o with
    | .cells _ t frozen => .cells #[.slice (some ⟨(settled os).heap.size, 0, none⟩) 4 4] t frozen
    | o => o)).modify 2 (fun o => match o with
    | .cells _ t frozen => .cells #[.slice (some ⟨(settled os).heap.size + 1, 0, none⟩) 4 4] t frozen
    | o => o)).modify 0 (fun o => match o with
    | .cells _ t frozen => .cells #[.slice (some ⟨(settled os).heap.size + 5, 0, none⟩) 4 4] t frozen
    | o => o)) (Obj.cells #[.string ⟨#[]⟩, .string ⟨#[97, 101, 111]⟩, .string ⟨#[97, 101, 111]⟩, .string ⟨#[97, 111, 117]⟩] 9 (0, 0)))
    (Obj.cells #[.slice none 0 0, .slice (some ⟨(settled os).heap.size + 2, 0, none⟩) 3 3, .slice (some ⟨(settled os).heap.size + 3, 0, none⟩) 3 3, .slice (some ⟨(settled os).heap.size + 4, 0, none⟩) 3 3] 60 (0, 0)))
    (Obj.cells #[.int .i64 224, .int .i64 232, .int .i64 242] 2 (0, 0)))
    (Obj.cells #[.int .i64 225, .int .i64 233, .int .i64 243] 2 (0, 0)))
    (Obj.cells #[.int .i64 228, .int .i64 246, .int .i64 252] 2 (0, 0)))
    (Obj.cells #[.int .i64 0, .int .i64 96, .int .i64 39, .int .i64 34] 2 (0, 0))
noncomputable def laidWorld (os : Os) : World := { settled os with heap := laidHeap os }
theorem laid_met (os : Os) : laidMet Tryd.prog Rows.fnAccentsRow.laid ((laidWorld os).forCall (fun _ _ => 0) ⟨#[], #[.slice none 0 0], []⟩).memory :=
  laidMet_of_run' 8 (by kernel_rfl) (by kernel_rfl)
theorem reads (os : Os) {H : Type} (enc : TypeId × Value → H) : ∃ places, DataW.whole enc Tryd.prog ((laidWorld os).forCall (fun _ _ => 0) ⟨#[], #[.slice none 0 0], []⟩).memory Tryd.f4.params.toList Rows.fnAccentsSpec.vars false #[Value.slice none 0 0].toList 8 = some ([.nil], [Rows.laid_loop_example_g00523_impl_plainLetters, Rows.laid_loop_example_g00523_impl_accented, Rows.laid_loop_example_g00523_impl_accents], places) := by
  have h : (DataW.whole enc Tryd.prog ((laidWorld os).forCall (fun _ _ => 0) ⟨#[], #[.slice none 0 0], []⟩).memory Tryd.f4.params.toList Rows.fnAccentsSpec.vars false #[Value.slice none 0 0].toList 8).map (fun x => (x.1, x.2.1)) = some ([.nil], [Rows.laid_loop_example_g00523_impl_plainLetters, Rows.laid_loop_example_g00523_impl_accented, Rows.laid_loop_example_g00523_impl_accents]) := by kernel_rfl
  obtain ⟨x, h1, h2⟩ := Option.map_eq_some_iff.1 h
  obtain ⟨x1, x2, x3⟩ := x
  simp only [Prod.mk.injEq] at h2
  obtain ⟨rfl, rfl⟩ := h2
  exact ⟨x3, h1⟩

set_option maxRecDepth 100000 in
theorem lifted (os : Os) (started : os.Started) (H : Type) (enc : TypeId × Value → H) (F : Stop.Interp) :
    ReturnsInHanded {} Tryd.checked os 4 .any ((OpenSpec.ofChange Rows.fnAccentsSpec).preRow enc Tryd.prog Tryd.f4 Rows.fnAccentsRow.domain false Rows.fnAccentsRow.laid) (((OpenSpec.ofChange Rows.fnAccentsSpec).at F).post enc Tryd.prog Tryd.f4 false true false false) := by
  obtain ⟨places, hx⟩ := reads os enc
  refine returnsInHanded_of_row (C := Tryd.checked) (s := OpenSpec.ofChange Rows.fnAccentsSpec) own started (by kernel_rfl) Tryd.func4
    (witness_row_atRef (enc := enc) (C := Tryd.checked) false (laidWorld os) #[.slice none 0 0] rfl (by kernel_rfl) (by kernel_rfl) (by kernel_rfl)
      (OpenSpec.preRow_of_cond 8 hx (by kernel_rfl) (fun k hk => by cases hk) (by kernel_rfl) (laid_met os))) ?_
  intro W base args ds gs before hval0 hW hcnd _ hsz0 hL _ _
  have hsz : (DataW.weightsEach Tryd.prog (Tryd.f4.params.toList ++ Rows.fnAccentsSpec.plain.varTypes Tryd.prog) (ds ++ gs)).all (· ≤ reachBytes) = true := hsz0
  have hval : ∀ (j : Nat) t v, Tryd.f4.params[j]? = some t → args[j]? = some v → Value.okWide Tryd.prog W .any base t v := hval0
  have hW' := hW
  obtain ⟨p, q, hA0, hV, rfl, hfz, hnd⟩ := hW
  have hA : DataW.TrodAll enc Tryd.prog W 0 (fun _ => true) true Tryd.f4.params.toList args.toList ds p := hA0
  rw [Tryd.params4] at hA hval hsz
  obtain ⟨v0, vs0, d0, ds0, p0, q0, hargs, rfl, rfl, h0, r0⟩ := trodAll_cons hA
  obtain ⟨rfl, rfl, rfl⟩ := trodAll_nil r0
  obtain rfl : args = #[v0] := by cases args; simp_all
  have hV' : DataW.TrodVars enc Tryd.prog W (fun _ => true) ["loop.example/g00523/impl.plainLetters", "loop.example/g00523/impl.accented", "loop.example/g00523/impl.accents"] gs q := hV
  obtain ⟨x1, x2, x3, rfl⟩ : ∃ x y z, gs = [x, y, z] := by
    cases gs with
    | nil => simp [DataW.TrodVars] at hV'
    | cons x r =>
      obtain ⟨_, _, _, _, _, _, _, _, _, _, hs, _⟩ := hV'
      obtain ⟨_, _, _, _, _, _, _, _, _, _, _, _, rfl, _⟩ := trodVars_two hs
      exact ⟨x, _, _, rfl⟩
  obtain ⟨a0, len0, cap0, rfl⟩ := okWide_slice Tryd.underlying27 (hval 0 27 v0 rfl rfl)
  have k0 := h0
  have lt0 : ∀ x ∈ p0, x.block < W.heap.size := by obtain ⟨m, hm⟩ := k0; exact DataW.trod_lt m _ _ _ hm
  obtain ⟨z0, w0⟩ : ∃ zs, IsRow .u8 W a0 len0 cap0 zs := by
    obtain ⟨fuel, hf⟩ := h0
    rcases open_ints Tryd.underlying27 Tryd.underlying5 (by kernel_rfl) hf with ⟨hcs, _⟩ | ⟨x, l, c, zs, hcs, _, hl, hm, hz, _, hcell, hwz⟩
    · simp [Value.cells] at hcs
      obtain ⟨rfl, rfl, rfl⟩ := hcs
      exact ⟨[], .inl ⟨rfl, rfl, rfl, rfl⟩⟩
    · simp [Value.cells] at hcs
      obtain ⟨rfl, rfl, rfl⟩ := hcs
      exact ⟨zs, .inr ⟨_, rfl, hl, hm, by simpa using hz, hcell, hwz⟩⟩
  have y0 : len0 * 1 ≤ 140737488351232 := Go.Proofs.YtpoafgokngpglaaDoorW.PrintWords.sized_ints hsz (j := 0) (t := 27) rfl rfl Tryd.underlying27 Tryd.underlying5 (by kernel_rfl) (by kernel_rfl) h0
  clear hA0 hval0 hsz0 hsz
  obtain ⟨l0, rfl, hr0, hm0, hw0, hc0⟩ := ReadsInt.ofRowC w0
  obtain ⟨k, h⟩ := Pure.FnAccents l0 hm0 y0 hw0
  refine (PFnAccents.laws_FnAccents.calls k _ _ l0 W (Kd.C_of_reads (d := (0 : Int)) (h1 := fun _ => rfl) hr0) hc0 (table hL) h).mono fun e W' ⟨he, bel⟩ => ?_
  subst he
  exact ⟨_, rfl, _, _, _, [], _, q, hW', trodAll_mk1 (shut_bool Tryd.underlying4 _), (trodAll_cons_mk (Below.trod laidOut (by kernel_rfl) (of_decide_eq_true (by kernel_rfl)) k0 bel lt0) trodAll_mk0), Below.trodVars laidOut bel (by kernel_rfl) hV, bel.frame _, fun h => by cases h⟩

theorem said : Rows.FnAccentsSaid :=
  OpenClaim.holds_of_cond 4 Tryd.f4 rfl rfl rfl rfl rfl rfl rfl ⟨rfl, rfl, rfl, rfl, rfl⟩ rfl rfl rfl rfl rfl (by kernel_rfl) Tryd.func4 (by kernel_rfl)
    (of_decide_eq_true (by kernel_rfl)) (by unfold Func.isWrapper; first | (rw [if_pos (by decide +kernel)]; kernel_rfl) | (rw [if_neg (by decide +kernel)]; exact ⟨rfl, rfl⟩))
    (fun os started H enc _ F => by rw [OpenClaim.pre_eq_preRow]; exact lifted os started H enc F)

theorem plain (f : FuncId) (fn : Func) (hf : Tryd.pinned.checked.prog.funcNamed "loop.example/g00523/laws.FnAccents" = some f) (hfn : Tryd.pinned.checked.prog.funcs[f]? = some fn) :
    true = Tryd.pinned.checked.prog.looks [] ∧ ∀ (j : Nat) t, fn.params[j]? = some t → Tryd.pinned.checked.prog.wantsStandIn t = false := by
  obtain rfl : f = 4 := Option.some.inj ((show Tryd.prog.funcNamed "loop.example/g00523/laws.FnAccents" = some 4 by kernel_rfl).symm.trans hf) |>.symm
  obtain rfl : fn = Tryd.f4 := (Option.some.inj (Tryd.func4.symm.trans hfn)).symm
  refine ⟨by kernel_rfl, fun j t ht => ?_⟩
  rw [Tryd.params4] at ht
  obtain rfl : t = 27 := by simpa using Array.mem_of_getElem? ht
  exact (show Tryd.prog.wantsStandIn 27 = false by kernel_rfl)

/-- The card: the listed variables tied to the program's text. -/
theorem card : Rows.FnAccentsCardSaid :=
  Claim7.holds_tied_plain_at .later [] _ _ _ _ said (fun _ h => by cases h) (by kernel_rfl) (fun _ h => by cases h) fnAccents_row_tie rfl ⟨rfl, rfl⟩ (by kernel_rfl) rfl plain (by kernel_rfl)
#print axioms card
end Go.Proofs.YtpoafgokngpglaaDoor.fnAccents
namespace Go.Proofs.YtpoafgokngpglaaDoor
/-- The card, under a short name, for the claim. -/
theorem fnAccents_holds : Rows.FnAccentsCardSaid := fnAccents.card
end Go.Proofs.YtpoafgokngpglaaDoor
