/-
  No cell of these rows narrows 'for every input' (looked for: loops, veiled, ifaces, maps, wideKeys, modest, calm, conditions, laid).
  DERIVED. THE GIVEN ROWS OF THIS SEAT. 10 by the template 'for every input the law returns true; each argument reads behind the call as it read before'; 0 by the template 'total and deterministic' (their statements: YtagipnepckgdfaaTotals.lean).
  GIVEN WITH THE SEED: the statements are not yours to turn. If you find one false, say at which input.
  Laid BY PROGRAM, IN A SANDBOX (cutbox-rows.mjs): the forced cells as the released guide's own fill.sh prints them over the translation 611c42f24dc7aae0… (all of the seat's roots in one cut). By AI agents, Wed Nov 11 2026. No macro, syntax, notation, axiom, sorry.
-/
import Derived.Test.YtagipnepckgdfaaChecked
import GoSem.Claim
import GoSem.ClaimJoined
import GoSem.ClaimMapViews
import Derived.JoinedTies
import Derived.KernelRfl
namespace Go.Proofs.Ytagipnepckgdfaa
/- THE CELL 'sum', in the pinned program and in every row, IS THE sha256 OF THE DUMP (.gsa) THAT YtagipnepckgdfaaProg.lean LOADS. Nothing in Lean hashes anything: it is a label: what it is worth is what the hold of that sum in a sandbox is worth. -/
noncomputable def Try.pinned : Pinned := { name := "ytagipnepckgdfaa", sum := "611c42f24dc7aae0c2776ee5fda5c5add357c0e275204cc322388aff1ad17ac4", checked := Try.checked }
namespace Rows
def none {H : Type} : Left H := { results := [], args := [] }

/-- 'laws.FnExactActionFault': WHATEVER THE INPUT: true; the input reads as it did. -/
def fnExactActionFaultSpec : ChangeSpec := { name := "fnExactActionFault", fn := fun _ => fun
  | [d] => { results := [.lit (.bool true)], args := [d] }
  | _ => none }
def fnExactActionFaultRow : OpenClaim := { program := "ytagipnepckgdfaa", sum := "611c42f24dc7aae0c2776ee5fda5c5add357c0e275204cc322388aff1ad17ac4", func := "loop.example/g00523/laws.FnExactActionFault", spec := "fnExactActionFault", unfollowed := true, recurses := true, apart := false }
def FnExactActionFaultSaid : Prop := fnExactActionFaultRow.holds Try.pinned (OpenSpec.ofChange fnExactActionFaultSpec)

/-- ITS FALSE NEIGHBOUR: 'it returns false'. Refute it at one input. -/
def fnExactActionFaultWrong : ChangeSpec := { name := "fnExactActionFault", fn := fun _ => fun
  | [d] => { results := [.lit (.bool false)], args := [d] }
  | _ => none }
def FnExactActionFaultWrongFalsely : Prop := fnExactActionFaultRow.holds Try.pinned (OpenSpec.ofChange fnExactActionFaultWrong)

/-- 'laws.FnExactParserFault': WHATEVER THE INPUT: true; the input reads as it did. -/
def fnExactParserFaultSpec : ChangeSpec := { name := "fnExactParserFault", fn := fun _ => fun
  | [d] => { results := [.lit (.bool true)], args := [d] }
  | _ => none }
def fnExactParserFaultRow : OpenClaim := { program := "ytagipnepckgdfaa", sum := "611c42f24dc7aae0c2776ee5fda5c5add357c0e275204cc322388aff1ad17ac4", func := "loop.example/g00523/laws.FnExactParserFault", spec := "fnExactParserFault", unfollowed := true, recurses := true, apart := false }
def FnExactParserFaultSaid : Prop := fnExactParserFaultRow.holds Try.pinned (OpenSpec.ofChange fnExactParserFaultSpec)

/-- ITS FALSE NEIGHBOUR: 'it returns false'. Refute it at one input. -/
def fnExactParserFaultWrong : ChangeSpec := { name := "fnExactParserFault", fn := fun _ => fun
  | [d] => { results := [.lit (.bool false)], args := [d] }
  | _ => none }
def FnExactParserFaultWrongFalsely : Prop := fnExactParserFaultRow.holds Try.pinned (OpenSpec.ofChange fnExactParserFaultWrong)

/-- 'laws.FnExactSameParsers': WHATEVER THE INPUT: true; the input reads as it did. -/
def fnExactSameParsersSpec : ChangeSpec := { name := "fnExactSameParsers", fn := fun _ => fun
  | [d1, d2] => { results := [.lit (.bool true)], args := [d1, d2] }
  | _ => none }
def fnExactSameParsersRow : OpenClaim := { program := "ytagipnepckgdfaa", sum := "611c42f24dc7aae0c2776ee5fda5c5add357c0e275204cc322388aff1ad17ac4", func := "loop.example/g00523/laws.FnExactSameParsers", spec := "fnExactSameParsers", apart := false }
def FnExactSameParsersSaid : Prop := fnExactSameParsersRow.holds Try.pinned (OpenSpec.ofChange fnExactSameParsersSpec)

/-- ITS FALSE NEIGHBOUR: 'it returns false'. Refute it at one input. -/
def fnExactSameParsersWrong : ChangeSpec := { name := "fnExactSameParsers", fn := fun _ => fun
  | [d1, d2] => { results := [.lit (.bool false)], args := [d1, d2] }
  | _ => none }
def FnExactSameParsersWrongFalsely : Prop := fnExactSameParsersRow.holds Try.pinned (OpenSpec.ofChange fnExactSameParsersWrong)

/-- 'laws.FnExactSameGrids': WHATEVER THE INPUT: true; the input reads as it did. -/
def fnExactSameGridsSpec : ChangeSpec := { name := "fnExactSameGrids", fn := fun _ => fun
  | [d1, d2] => { results := [.lit (.bool true)], args := [d1, d2] }
  | _ => none }
def fnExactSameGridsRow : OpenClaim := { program := "ytagipnepckgdfaa", sum := "611c42f24dc7aae0c2776ee5fda5c5add357c0e275204cc322388aff1ad17ac4", func := "loop.example/g00523/laws.FnExactSameGrids", spec := "fnExactSameGrids", apart := false }
def FnExactSameGridsSaid : Prop := fnExactSameGridsRow.holds Try.pinned (OpenSpec.ofChange fnExactSameGridsSpec)

/-- ITS FALSE NEIGHBOUR: 'it returns false'. Refute it at one input. -/
def fnExactSameGridsWrong : ChangeSpec := { name := "fnExactSameGrids", fn := fun _ => fun
  | [d1, d2] => { results := [.lit (.bool false)], args := [d1, d2] }
  | _ => none }
def FnExactSameGridsWrongFalsely : Prop := fnExactSameGridsRow.holds Try.pinned (OpenSpec.ofChange fnExactSameGridsWrong)

/-- 'laws.FnExactGridFault': WHATEVER THE INPUT: true; the input reads as it did. -/
def fnExactGridFaultSpec : ChangeSpec := { name := "fnExactGridFault", fn := fun _ => fun
  | [d] => { results := [.lit (.bool true)], args := [d] }
  | _ => none }
def fnExactGridFaultRow : OpenClaim := { program := "ytagipnepckgdfaa", sum := "611c42f24dc7aae0c2776ee5fda5c5add357c0e275204cc322388aff1ad17ac4", func := "loop.example/g00523/laws.FnExactGridFault", spec := "fnExactGridFault", unfollowed := true, recurses := true, apart := false }
def FnExactGridFaultSaid : Prop := fnExactGridFaultRow.holds Try.pinned (OpenSpec.ofChange fnExactGridFaultSpec)

/-- ITS FALSE NEIGHBOUR: 'it returns false'. Refute it at one input. -/
def fnExactGridFaultWrong : ChangeSpec := { name := "fnExactGridFault", fn := fun _ => fun
  | [d] => { results := [.lit (.bool false)], args := [d] }
  | _ => none }
def FnExactGridFaultWrongFalsely : Prop := fnExactGridFaultRow.holds Try.pinned (OpenSpec.ofChange fnExactGridFaultWrong)

/-- 'laws.FnExactNewGrid': WHATEVER THE INPUT: true; the input reads as it did. -/
def fnExactNewGridSpec : ChangeSpec := { name := "fnExactNewGrid", fn := fun _ => fun
  | [d1, d2] => { results := [.lit (.bool true)], args := [d1, d2] }
  | _ => none }
def fnExactNewGridRow : OpenClaim := { program := "ytagipnepckgdfaa", sum := "611c42f24dc7aae0c2776ee5fda5c5add357c0e275204cc322388aff1ad17ac4", func := "loop.example/g00523/laws.FnExactNewGrid", spec := "fnExactNewGrid", apart := false }
def FnExactNewGridSaid : Prop := fnExactNewGridRow.holds Try.pinned (OpenSpec.ofChange fnExactNewGridSpec)

/-- ITS FALSE NEIGHBOUR: 'it returns false'. Refute it at one input. -/
def fnExactNewGridWrong : ChangeSpec := { name := "fnExactNewGrid", fn := fun _ => fun
  | [d1, d2] => { results := [.lit (.bool false)], args := [d1, d2] }
  | _ => none }
def FnExactNewGridWrongFalsely : Prop := fnExactNewGridRow.holds Try.pinned (OpenSpec.ofChange fnExactNewGridWrong)

/-- 'laws.FnExactSameShown': WHATEVER THE INPUT: true; the input reads as it did. -/
def fnExactSameShownSpec : ChangeSpec := { name := "fnExactSameShown", fn := fun _ => fun
  | [d1, d2] => { results := [.lit (.bool true)], args := [d1, d2] }
  | _ => none }
def fnExactSameShownRow : OpenClaim := { program := "ytagipnepckgdfaa", sum := "611c42f24dc7aae0c2776ee5fda5c5add357c0e275204cc322388aff1ad17ac4", func := "loop.example/g00523/laws.FnExactSameShown", spec := "fnExactSameShown", apart := false }
def FnExactSameShownSaid : Prop := fnExactSameShownRow.holds Try.pinned (OpenSpec.ofChange fnExactSameShownSpec)

/-- ITS FALSE NEIGHBOUR: 'it returns false'. Refute it at one input. -/
def fnExactSameShownWrong : ChangeSpec := { name := "fnExactSameShown", fn := fun _ => fun
  | [d1, d2] => { results := [.lit (.bool false)], args := [d1, d2] }
  | _ => none }
def FnExactSameShownWrongFalsely : Prop := fnExactSameShownRow.holds Try.pinned (OpenSpec.ofChange fnExactSameShownWrong)

/-- 'laws.FnExactNewScreen': WHATEVER THE INPUT: true; the input reads as it did. -/
def fnExactNewScreenSpec : ChangeSpec := { name := "fnExactNewScreen", fn := fun _ => fun
  | [d1, d2] => { results := [.lit (.bool true)], args := [d1, d2] }
  | _ => none }
def fnExactNewScreenRow : OpenClaim := { program := "ytagipnepckgdfaa", sum := "611c42f24dc7aae0c2776ee5fda5c5add357c0e275204cc322388aff1ad17ac4", func := "loop.example/g00523/laws.FnExactNewScreen", spec := "fnExactNewScreen", apart := false }
def FnExactNewScreenSaid : Prop := fnExactNewScreenRow.holds Try.pinned (OpenSpec.ofChange fnExactNewScreenSpec)

/-- ITS FALSE NEIGHBOUR: 'it returns false'. Refute it at one input. -/
def fnExactNewScreenWrong : ChangeSpec := { name := "fnExactNewScreen", fn := fun _ => fun
  | [d1, d2] => { results := [.lit (.bool false)], args := [d1, d2] }
  | _ => none }
def FnExactNewScreenWrongFalsely : Prop := fnExactNewScreenRow.holds Try.pinned (OpenSpec.ofChange fnExactNewScreenWrong)

/-- 'laws.FnExactSameVts': WHATEVER THE INPUT: true; the input reads as it did. -/
def fnExactSameVtsSpec : ChangeSpec := { name := "fnExactSameVts", fn := fun _ => fun
  | [d1, d2] => { results := [.lit (.bool true)], args := [d1, d2] }
  | _ => none }
def fnExactSameVtsRow : OpenClaim := { program := "ytagipnepckgdfaa", sum := "611c42f24dc7aae0c2776ee5fda5c5add357c0e275204cc322388aff1ad17ac4", func := "loop.example/g00523/laws.FnExactSameVts", spec := "fnExactSameVts", apart := false }
def FnExactSameVtsSaid : Prop := fnExactSameVtsRow.holds Try.pinned (OpenSpec.ofChange fnExactSameVtsSpec)

/-- ITS FALSE NEIGHBOUR: 'it returns false'. Refute it at one input. -/
def fnExactSameVtsWrong : ChangeSpec := { name := "fnExactSameVts", fn := fun _ => fun
  | [d1, d2] => { results := [.lit (.bool false)], args := [d1, d2] }
  | _ => none }
def FnExactSameVtsWrongFalsely : Prop := fnExactSameVtsRow.holds Try.pinned (OpenSpec.ofChange fnExactSameVtsWrong)

/-- 'laws.FnExactNewVt': WHATEVER THE INPUT: true; the input reads as it did. -/
def fnExactNewVtSpec : ChangeSpec := { name := "fnExactNewVt", fn := fun _ => fun
  | [d1, d2] => { results := [.lit (.bool true)], args := [d1, d2] }
  | _ => none }
def fnExactNewVtRow : OpenClaim := { program := "ytagipnepckgdfaa", sum := "611c42f24dc7aae0c2776ee5fda5c5add357c0e275204cc322388aff1ad17ac4", func := "loop.example/g00523/laws.FnExactNewVt", spec := "fnExactNewVt", apart := false }
def FnExactNewVtSaid : Prop := fnExactNewVtRow.holds Try.pinned (OpenSpec.ofChange fnExactNewVtSpec)

/-- ITS FALSE NEIGHBOUR: 'it returns false'. Refute it at one input. -/
def fnExactNewVtWrong : ChangeSpec := { name := "fnExactNewVt", fn := fun _ => fun
  | [d1, d2] => { results := [.lit (.bool false)], args := [d1, d2] }
  | _ => none }
def FnExactNewVtWrongFalsely : Prop := fnExactNewVtRow.holds Try.pinned (OpenSpec.ofChange fnExactNewVtWrong)

/- THE SECOND FORM. 'bulk': how many values and letters a reading holds, each counted each time it is reached (what is shared counts as often as it is met; a slice's spare places count too). A statement '..UptoSaid' is the law's where the arguments, and the package variables that the reading takes, are together of bulk at most 1048576: NARROWER than '..Said'. Prove '..Said' where nothing that the law and all that it calls make is longer than what came in: it says more and counts as full. Else prove '..UptoSaid'. A law counts once. -/
mutual
def uptoBulk {H : Type} : DataW H → Nat
  | .lit (.string bytes) => bytes.length + 1
  | .lit _ => 1
  | .nil => 1
  | .ptr d => uptoBulk d + 1
  | .slice elems spare => uptoBulkAll elems + uptoBulkAll spare + 1
  | .agg parts => uptoBulkAll parts + 1
  | .iface _ d => uptoBulk d + 1
  | .map entries => uptoBulkEntries entries + 1
  | .held _ => 1
def uptoBulkAll {H : Type} : List (DataW H) → Nat
  | [] => 0
  | d :: r => uptoBulk d + uptoBulkAll r
def uptoBulkEntries {H : Type} : List (Lit × DataW H) → Nat
  | [] => 0
  | x :: r => uptoBulkEntry x + uptoBulkEntries r
def uptoBulkEntry {H : Type} : Lit × DataW H → Nat
  | (.string bytes, d) => bytes.length + uptoBulk d + 1
  | (_, d) => uptoBulk d + 1
 end
def uptoSmall : (H : Type) → List (DataW H) → Bool := fun _ ds => decide (uptoBulkAll ds ≤ 1048576)
def OpenSpec.upto (s : _root_.Go.ChangeSpec) : _root_.Go.OpenSpec := { _root_.Go.OpenSpec.ofChange s with cond := some uptoSmall }

/-- 'laws.FnExactActionFault', WHERE WHAT IT READS IS OF BULK AT MOST 1048576: true; the input reads as it did. -/
def fnExactActionFaultUptoRow : OpenClaim := { program := "ytagipnepckgdfaa", sum := "611c42f24dc7aae0c2776ee5fda5c5add357c0e275204cc322388aff1ad17ac4", func := "loop.example/g00523/laws.FnExactActionFault", spec := "fnExactActionFault", unfollowed := true, recurses := true, apart := false, narrowed := true }
def FnExactActionFaultUptoSaid : Prop := fnExactActionFaultUptoRow.holds Try.pinned (OpenSpec.upto fnExactActionFaultSpec)

/-- 'laws.FnExactParserFault', WHERE WHAT IT READS IS OF BULK AT MOST 1048576: true; the input reads as it did. -/
def fnExactParserFaultUptoRow : OpenClaim := { program := "ytagipnepckgdfaa", sum := "611c42f24dc7aae0c2776ee5fda5c5add357c0e275204cc322388aff1ad17ac4", func := "loop.example/g00523/laws.FnExactParserFault", spec := "fnExactParserFault", unfollowed := true, recurses := true, apart := false, narrowed := true }
def FnExactParserFaultUptoSaid : Prop := fnExactParserFaultUptoRow.holds Try.pinned (OpenSpec.upto fnExactParserFaultSpec)

/-- 'laws.FnExactSameParsers', WHERE WHAT IT READS IS OF BULK AT MOST 1048576: true; the input reads as it did. -/
def fnExactSameParsersUptoRow : OpenClaim := { program := "ytagipnepckgdfaa", sum := "611c42f24dc7aae0c2776ee5fda5c5add357c0e275204cc322388aff1ad17ac4", func := "loop.example/g00523/laws.FnExactSameParsers", spec := "fnExactSameParsers", apart := false, narrowed := true }
def FnExactSameParsersUptoSaid : Prop := fnExactSameParsersUptoRow.holds Try.pinned (OpenSpec.upto fnExactSameParsersSpec)

/-- 'laws.FnExactSameGrids', WHERE WHAT IT READS IS OF BULK AT MOST 1048576: true; the input reads as it did. -/
def fnExactSameGridsUptoRow : OpenClaim := { program := "ytagipnepckgdfaa", sum := "611c42f24dc7aae0c2776ee5fda5c5add357c0e275204cc322388aff1ad17ac4", func := "loop.example/g00523/laws.FnExactSameGrids", spec := "fnExactSameGrids", apart := false, narrowed := true }
def FnExactSameGridsUptoSaid : Prop := fnExactSameGridsUptoRow.holds Try.pinned (OpenSpec.upto fnExactSameGridsSpec)

/-- 'laws.FnExactGridFault', WHERE WHAT IT READS IS OF BULK AT MOST 1048576: true; the input reads as it did. -/
def fnExactGridFaultUptoRow : OpenClaim := { program := "ytagipnepckgdfaa", sum := "611c42f24dc7aae0c2776ee5fda5c5add357c0e275204cc322388aff1ad17ac4", func := "loop.example/g00523/laws.FnExactGridFault", spec := "fnExactGridFault", unfollowed := true, recurses := true, apart := false, narrowed := true }
def FnExactGridFaultUptoSaid : Prop := fnExactGridFaultUptoRow.holds Try.pinned (OpenSpec.upto fnExactGridFaultSpec)

/-- 'laws.FnExactNewGrid', WHERE WHAT IT READS IS OF BULK AT MOST 1048576: true; the input reads as it did. -/
def fnExactNewGridUptoRow : OpenClaim := { program := "ytagipnepckgdfaa", sum := "611c42f24dc7aae0c2776ee5fda5c5add357c0e275204cc322388aff1ad17ac4", func := "loop.example/g00523/laws.FnExactNewGrid", spec := "fnExactNewGrid", apart := false, narrowed := true }
def FnExactNewGridUptoSaid : Prop := fnExactNewGridUptoRow.holds Try.pinned (OpenSpec.upto fnExactNewGridSpec)

/-- 'laws.FnExactSameShown', WHERE WHAT IT READS IS OF BULK AT MOST 1048576: true; the input reads as it did. -/
def fnExactSameShownUptoRow : OpenClaim := { program := "ytagipnepckgdfaa", sum := "611c42f24dc7aae0c2776ee5fda5c5add357c0e275204cc322388aff1ad17ac4", func := "loop.example/g00523/laws.FnExactSameShown", spec := "fnExactSameShown", apart := false, narrowed := true }
def FnExactSameShownUptoSaid : Prop := fnExactSameShownUptoRow.holds Try.pinned (OpenSpec.upto fnExactSameShownSpec)

/-- 'laws.FnExactNewScreen', WHERE WHAT IT READS IS OF BULK AT MOST 1048576: true; the input reads as it did. -/
def fnExactNewScreenUptoRow : OpenClaim := { program := "ytagipnepckgdfaa", sum := "611c42f24dc7aae0c2776ee5fda5c5add357c0e275204cc322388aff1ad17ac4", func := "loop.example/g00523/laws.FnExactNewScreen", spec := "fnExactNewScreen", apart := false, narrowed := true }
def FnExactNewScreenUptoSaid : Prop := fnExactNewScreenUptoRow.holds Try.pinned (OpenSpec.upto fnExactNewScreenSpec)

/-- 'laws.FnExactSameVts', WHERE WHAT IT READS IS OF BULK AT MOST 1048576: true; the input reads as it did. -/
def fnExactSameVtsUptoRow : OpenClaim := { program := "ytagipnepckgdfaa", sum := "611c42f24dc7aae0c2776ee5fda5c5add357c0e275204cc322388aff1ad17ac4", func := "loop.example/g00523/laws.FnExactSameVts", spec := "fnExactSameVts", apart := false, narrowed := true }
def FnExactSameVtsUptoSaid : Prop := fnExactSameVtsUptoRow.holds Try.pinned (OpenSpec.upto fnExactSameVtsSpec)

/-- 'laws.FnExactNewVt', WHERE WHAT IT READS IS OF BULK AT MOST 1048576: true; the input reads as it did. -/
def fnExactNewVtUptoRow : OpenClaim := { program := "ytagipnepckgdfaa", sum := "611c42f24dc7aae0c2776ee5fda5c5add357c0e275204cc322388aff1ad17ac4", func := "loop.example/g00523/laws.FnExactNewVt", spec := "fnExactNewVt", apart := false, narrowed := true }
def FnExactNewVtUptoSaid : Prop := fnExactNewVtUptoRow.holds Try.pinned (OpenSpec.upto fnExactNewVtSpec)

end Rows
end Go.Proofs.Ytagipnepckgdfaa
