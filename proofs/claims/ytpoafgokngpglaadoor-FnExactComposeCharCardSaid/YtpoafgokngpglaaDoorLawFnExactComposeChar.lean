/- ComposeChar: the row, and its card tied to the program's text. -/
import Derived.Test.YtpoafgokngpglaaDoorCards
import Derived.Test.YtpoafgokngpglaaDoorTie
import Derived.Test.YtpoafgokngpglaaDoorPureFnExactComposeChar
import Derived.Test.YtpoafgokngpglaaDoorRd
import Derived.WalkKit
import Derived.ProofKit
import Derived.OpenShut
import Derived.ChangeVars
import Derived.ChangeSame
import Derived.Below
import Derived.Carry
import Derived.OpenVars
import Derived.Deep.DeepWitnessRowRef
import Derived.Lib.LaidPrint
namespace Go.Proofs.YtpoafgokngpglaaDoor.fnExactComposeChar
open Go.ChangeShapes Go.WideShapes Go.ChangeAt Go.RowKit Go.Proofs.YtpoafgokngpglaaDoorW.PrintWords Go.Proofs.YtpoafgokngpglaaDoorRd Go.Proofs.YtpoafgokngpglaaDoorCm
set_option linter.unusedVariables false

theorem own : ownKnob Tryd.prog.godebug = none := by kernel_rfl
theorem laidOut : laidOutB Tryd.prog = true := by kernel_rfl

/-- What the row's list gives. -/
theorem table {W : World} (h : laidMetH Tryd.prog Rows.fnExactComposeCharRow.laid W) : TabC W := by
  have h' : laidMet Tryd.prog Rows.fnExactComposeCharRow.laid W := h
  have c9 : Tryd.prog.cellsOf 9 = 1 := by kernel_rfl
  have c2 : Tryd.prog.cellsOf 2 = 1 := by kernel_rfl
  have c88 : Tryd.prog.cellsOf 88 = 1 := by kernel_rfl
  have c60 : Tryd.prog.cellsOf 60 = 1 := by kernel_rfl
  have c111 : Tryd.prog.cellsOf 111 = 1 := by kernel_rfl
  have ints : ∀ (l : List Int), Reads Tryd.prog 60 (Kd.slice 2 (Kd.int .i64)) (.slice (l.map fun n => .lit (.int .i64 n)) []) l := fun l =>
    reads_slice Tryd.underlying60 c60 c2.symm (by simp) (fun i x a hx ha => by
      rw [List.getElem?_map, ha] at hx
      obtain rfl := Option.some.inj hx
      exact reads_int Tryd.underlying2 c2)
  have r1 : Reads Tryd.prog 88 (Kd.slice 9 Kd.string) Rows.laid_loop_example_g00523_impl_plainLetters lets :=
    reads_slice Tryd.underlying88 c88 c9.symm rfl (fun i x a hx ha => by
      have hi : i < 4 := (List.getElem?_eq_some_iff.1 ha).1
      rcases (show i = 0 ∨ i = 1 ∨ i = 2 ∨ i = 3 by omega) with rfl | rfl | rfl | rfl <;> cases hx <;> cases ha
      · exact reads_string (s := ⟨#[]⟩) Tryd.underlying9 c9
      · exact reads_string (s := ⟨#[97, 101, 111]⟩) Tryd.underlying9 c9
      · exact reads_string (s := ⟨#[97, 101, 111]⟩) Tryd.underlying9 c9
      · exact reads_string (s := ⟨#[97, 111, 117]⟩) Tryd.underlying9 c9)
  have r2 : Reads Tryd.prog 111 (Kd.slice 60 (Kd.slice 2 (Kd.int .i64))) Rows.laid_loop_example_g00523_impl_accented accd :=
    reads_slice Tryd.underlying111 c111 c60.symm rfl (fun i x a hx ha => by
      have hi : i < 4 := (List.getElem?_eq_some_iff.1 ha).1
      rcases (show i = 0 ∨ i = 1 ∨ i = 2 ∨ i = 3 by omega) with rfl | rfl | rfl | rfl <;> cases hx <;> cases ha
      · exact reads_nil Tryd.underlying60 c60
      · exact ints [224, 232, 242]
      · exact ints [225, 233, 243]
      · exact ints [228, 246, 252])
  obtain ⟨A1, k1, h1, h2⟩ := var_slice (g := 1) (t := 88) (by kernel_rfl) (by kernel_rfl) (Lib.laidMet.reads h' (List.mem_of_getElem? (i := 0) rfl)) r1
  obtain ⟨A2, k2, h3, h4⟩ := var_slice (g := 2) (t := 111) (by kernel_rfl) (by kernel_rfl) (Lib.laidMet.reads h' (List.mem_of_getElem? (i := 1) rfl)) r2
  exact ⟨A1, k1, A2, k2, h1, h2, h3, h4⟩

set_option maxRecDepth 100000 in
theorem contract (H : Type) (enc : TypeId × Value → H) (W : World) (base : Nat) (args : Array Value) (ds gs : List (DataW H)) (before : List MemPlace)
    (hval : ∀ (j : Nat) t v, Tryd.f3.params[j]? = some t → args[j]? = some v → Value.okWide Tryd.prog W .any base t v)
    (hW : DataW.Whole enc Tryd.prog Tryd.f3.params.toList Rows.fnExactComposeCharSpec.vars false W args.toList ds gs before) (hL : laidMetH Tryd.prog Rows.fnExactComposeCharRow.laid W) :
    Calls Tryd.prog 3 args W fun e W' => ∃ v, e = .returned v ∧ Rows.fnExactComposeCharSpec.post enc Tryd.prog Tryd.f3 false true false false W args v W' := by
  have hW' := hW
  have hlt : ∀ p ∈ before, p.block < W.heap.size := fun p hp => hW.lt p hp
  obtain ⟨p, q, hA0, hV, rfl, hfz, hnd⟩ := hW
  have hA : DataW.TrodAll enc Tryd.prog W 0 (fun _ => true) true Tryd.f3.params.toList args.toList ds p := hA0
  rw [Tryd.params3] at hA hval
  obtain ⟨v0, vs0, d0, ds0, p0, q0, hargs, rfl, rfl, h0, r0⟩ := trodAll_cons hA
  obtain ⟨v1, vs1, d1, ds1, p1, q1, hargs1, rfl, rfl, h1, r1⟩ := trodAll_cons r0
  obtain ⟨rfl, rfl, rfl⟩ := trodAll_nil r1
  obtain rfl : args = #[v0, v1] := by cases args; simp_all
  obtain ⟨a, rfl, rfl, rfl, w0⟩ := open_int Tryd.underlying2 (hval 0 2 v0 rfl rfl) h0
  obtain ⟨c, rfl, rfl, rfl, w1⟩ := open_int Tryd.underlying2 (hval 1 2 v1 rfl rfl) h1
  have hV' := hV
  obtain ⟨_, _, _, _, g1, _, _, _, _, _, g2, _, rfl, _⟩ := trodVars_two hV'
  clear hA0
  refine (PFnExactComposeChar.laws_FnExactComposeChar.calls 7 a c W (table hL) (Pure.FnExactComposeChar a c)).mono fun e W' ⟨he, bel⟩ => ?_
  subst he
  exact ⟨_, rfl, _, _, _, [], _, q, hW', trodAll_mk1 (shut_bool Tryd.underlying4 _), (trodAll_cons_mk (shut_int Tryd.underlying2 w0) (trodAll_cons_mk (shut_int Tryd.underlying2 w1) trodAll_mk0)), Below.trodVars laidOut bel (by kernel_rfl) hV, bel.frame _, fun h => by cases h⟩

/-- A world for the witness: the settled one, the tables' variables over blocks of their own behind all that is settled. -/
noncomputable def settled (os : Os) : World := World.holding Tryd.prog os ⟨#[], #[], []⟩
noncomputable def laidHeap (os : Os) : Array Obj :=
  Array.push (Array.push (Array.push (Array.push (Array.push (((settled os).heap.modify 1 (fun o => match o with
    | .cells _ t frozen => .cells #[.slice (some ⟨(settled os).heap.size, 0, none⟩) 4 4] t frozen
    | o => o)).modify 2 (fun o => match o with
    | .cells _ t frozen => .cells #[.slice (some ⟨(settled os).heap.size + 1, 0, none⟩) 4 4] t frozen
    | o => o)) (Obj.cells #[.string ⟨#[]⟩, .string ⟨#[97, 101, 111]⟩, .string ⟨#[97, 101, 111]⟩, .string ⟨#[97, 111, 117]⟩] 9 (0, 0)))
    (Obj.cells #[.slice none 0 0, .slice (some ⟨(settled os).heap.size + 2, 0, none⟩) 3 3, .slice (some ⟨(settled os).heap.size + 3, 0, none⟩) 3 3, .slice (some ⟨(settled os).heap.size + 4, 0, none⟩) 3 3] 60 (0, 0)))
    (Obj.cells #[.int .i64 224, .int .i64 232, .int .i64 242] 2 (0, 0)))
    (Obj.cells #[.int .i64 225, .int .i64 233, .int .i64 243] 2 (0, 0)))
    (Obj.cells #[.int .i64 228, .int .i64 246, .int .i64 252] 2 (0, 0))
noncomputable def laidWorld (os : Os) : World := { settled os with heap := laidHeap os }
theorem laid_met (os : Os) : laidMet Tryd.prog Rows.fnExactComposeCharRow.laid ((laidWorld os).forCall (fun _ _ => 0) ⟨#[], #[.int .i64 0, .int .i64 0], []⟩).memory :=
  laidMet_of_run' 8 (by kernel_rfl) (by kernel_rfl)
theorem reads (os : Os) {H : Type} (enc : TypeId × Value → H) : ∃ places, DataW.whole enc Tryd.prog ((laidWorld os).forCall (fun _ _ => 0) ⟨#[], #[.int .i64 0, .int .i64 0], []⟩).memory Tryd.f3.params.toList Rows.fnExactComposeCharSpec.vars false #[Value.int .i64 0, Value.int .i64 0].toList 8 = some ([.lit (.int .i64 0), .lit (.int .i64 0)], [Rows.laid_loop_example_g00523_impl_plainLetters, Rows.laid_loop_example_g00523_impl_accented], places) := by
  have h : (DataW.whole enc Tryd.prog ((laidWorld os).forCall (fun _ _ => 0) ⟨#[], #[.int .i64 0, .int .i64 0], []⟩).memory Tryd.f3.params.toList Rows.fnExactComposeCharSpec.vars false #[Value.int .i64 0, Value.int .i64 0].toList 8).map (fun x => (x.1, x.2.1)) = some ([.lit (.int .i64 0), .lit (.int .i64 0)], [Rows.laid_loop_example_g00523_impl_plainLetters, Rows.laid_loop_example_g00523_impl_accented]) := by kernel_rfl
  obtain ⟨x, h1, h2⟩ := Option.map_eq_some_iff.1 h
  obtain ⟨x1, x2, x3⟩ := x
  simp only [Prod.mk.injEq] at h2
  obtain ⟨rfl, rfl⟩ := h2
  exact ⟨x3, h1⟩

set_option maxRecDepth 100000 in
theorem lifted (os : Os) (started : os.Started) (H : Type) (enc : TypeId × Value → H) (F : Stop.Interp) :
    ReturnsInHanded {} Tryd.checked os 3 .any ((OpenSpec.ofChange Rows.fnExactComposeCharSpec).preRow enc Tryd.prog Tryd.f3 Rows.fnExactComposeCharRow.domain false Rows.fnExactComposeCharRow.laid) (((OpenSpec.ofChange Rows.fnExactComposeCharSpec).at F).post enc Tryd.prog Tryd.f3 false true false false) := by
  obtain ⟨places, hx⟩ := reads os enc
  refine returnsInHanded_of_row (C := Tryd.checked) (s := OpenSpec.ofChange Rows.fnExactComposeCharSpec) own started (by kernel_rfl) Tryd.func3
    (witness_row_atRef (enc := enc) (C := Tryd.checked) false (laidWorld os) #[.int .i64 0, .int .i64 0] rfl (by kernel_rfl) (by kernel_rfl) (by kernel_rfl)
      (OpenSpec.preRow_of_cond 8 hx (by kernel_rfl) (fun k hk => by cases hk) (by kernel_rfl) (laid_met os))) ?_
  intro W base args ds gs before hval hW _ _ _ hL _ _
  exact contract H enc W base args ds gs before hval hW hL

theorem said : Rows.FnExactComposeCharSaid :=
  OpenClaim.holds_of_cond 3 Tryd.f3 rfl rfl rfl rfl rfl rfl rfl ⟨rfl, rfl, rfl, rfl, rfl⟩ rfl rfl rfl rfl rfl (by kernel_rfl) Tryd.func3 (by kernel_rfl)
    (of_decide_eq_true (by kernel_rfl)) (by unfold Func.isWrapper; first | (rw [if_pos (by decide +kernel)]; kernel_rfl) | (rw [if_neg (by decide +kernel)]; exact ⟨rfl, rfl⟩))
    (fun os started H enc _ F => by rw [OpenClaim.pre_eq_preRow]; exact lifted os started H enc F)

theorem plain (f : FuncId) (fn : Func) (hf : Tryd.pinned.checked.prog.funcNamed "loop.example/g00523/laws.FnExactComposeChar" = some f) (hfn : Tryd.pinned.checked.prog.funcs[f]? = some fn) :
    true = Tryd.pinned.checked.prog.looks [] ∧ ∀ (j : Nat) t, fn.params[j]? = some t → Tryd.pinned.checked.prog.wantsStandIn t = false := by
  obtain rfl : f = 3 := Option.some.inj ((show Tryd.prog.funcNamed "loop.example/g00523/laws.FnExactComposeChar" = some 3 by kernel_rfl).symm.trans hf) |>.symm
  obtain rfl : fn = Tryd.f3 := (Option.some.inj (Tryd.func3.symm.trans hfn)).symm
  refine ⟨by kernel_rfl, fun j t ht => ?_⟩
  rw [Tryd.params3] at ht
  obtain rfl : t = 2 := by simpa using Array.mem_of_getElem? ht
  exact (show Tryd.prog.wantsStandIn 2 = false by kernel_rfl)

/-- The card: the listed variables tied to the program's text. -/
theorem card : Rows.FnExactComposeCharCardSaid :=
  Claim7.holds_tied_plain_at .later [] _ _ _ _ said (fun _ h => by cases h) (by kernel_rfl) (fun _ h => by cases h) fnExactComposeChar_row_tie rfl ⟨rfl, rfl⟩ (by kernel_rfl) rfl plain (by kernel_rfl)
#print axioms card
end Go.Proofs.YtpoafgokngpglaaDoor.fnExactComposeChar
namespace Go.Proofs.YtpoafgokngpglaaDoor
/-- The card, under a short name, for the claim. -/
theorem fnExactComposeChar_holds : Rows.FnExactComposeCharCardSaid := fnExactComposeChar.card
end Go.Proofs.YtpoafgokngpglaaDoor
