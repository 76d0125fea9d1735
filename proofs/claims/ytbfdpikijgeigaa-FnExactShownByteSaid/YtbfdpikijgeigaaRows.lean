/-
  No cell of these rows narrows 'for every input' (looked for: loops, veiled, ifaces, maps, wideKeys, modest, calm, conditions, laid).
  DERIVED. THE GIVEN ROWS OF THIS SEAT. 5 by the template 'for every input the law returns true; each argument reads behind the call as it read before'; 0 by the template 'total and deterministic' (their statements: YtbfdpikijgeigaaTotals.lean).
  GIVEN WITH THE SEED: the statements are not yours to turn. If you find one false, say at which input.
  Laid BY PROGRAM, IN A SANDBOX (cutbox-rows.mjs): the forced cells as the released guide's own fill.sh prints them over the translation 13ca3976cd0d05d7… (all of the seat's roots in one cut). By AI agents, Wed Nov 11 2026. No macro, syntax, notation, axiom, sorry.
-/
import Derived.Test.YtbfdpikijgeigaaChecked
import GoSem.Claim
import GoSem.ClaimJoined
import GoSem.ClaimMapViews
import Derived.JoinedTies
import Derived.KernelRfl
namespace Go.Proofs.Ytbfdpikijgeigaa
/- THE CELL 'sum', in the pinned program and in every row, IS THE sha256 OF THE DUMP (.gsa) THAT YtbfdpikijgeigaaProg.lean LOADS. Nothing in Lean hashes anything: it is a label: what it is worth is what the hold of that sum in a sandbox is worth. -/
noncomputable def Try.pinned : Pinned := { name := "ytbfdpikijgeigaa", sum := "13ca3976cd0d05d7de5a7b56f3d29bba97737401f3b3249532b1997f64ce3cf8", checked := Try.checked }
namespace Rows
def none {H : Type} : Left H := { results := [], args := [] }

/-- 'laws.FnExactConstants': WHATEVER THE INPUT: true; the input reads as it did. -/
def fnExactConstantsSpec : ChangeSpec := { name := "fnExactConstants", fn := fun _ => fun
  | [] => { results := [.lit (.bool true)], args := [] }
  | _ => none }
def fnExactConstantsRow : OpenClaim := { program := "ytbfdpikijgeigaa", sum := "13ca3976cd0d05d7de5a7b56f3d29bba97737401f3b3249532b1997f64ce3cf8", func := "loop.example/g00523/laws.FnExactConstants", spec := "fnExactConstants", apart := false }
def FnExactConstantsSaid : Prop := fnExactConstantsRow.holds Try.pinned (OpenSpec.ofChange fnExactConstantsSpec)

/-- ITS FALSE NEIGHBOUR: 'it returns false'. Refute it at one input. -/
def fnExactConstantsWrong : ChangeSpec := { name := "fnExactConstants", fn := fun _ => fun
  | [] => { results := [.lit (.bool false)], args := [] }
  | _ => none }
def FnExactConstantsWrongFalsely : Prop := fnExactConstantsRow.holds Try.pinned (OpenSpec.ofChange fnExactConstantsWrong)

/-- 'laws.FnExactWayFault': WHATEVER THE INPUT: true; the input reads as it did. -/
def fnExactWayFaultSpec : ChangeSpec := { name := "fnExactWayFault", fn := fun _ => fun
  | [d] => { results := [.lit (.bool true)], args := [d] }
  | _ => none }
def fnExactWayFaultRow : OpenClaim := { program := "ytbfdpikijgeigaa", sum := "13ca3976cd0d05d7de5a7b56f3d29bba97737401f3b3249532b1997f64ce3cf8", func := "loop.example/g00523/laws.FnExactWayFault", spec := "fnExactWayFault", apart := false }
def FnExactWayFaultSaid : Prop := fnExactWayFaultRow.holds Try.pinned (OpenSpec.ofChange fnExactWayFaultSpec)

/-- ITS FALSE NEIGHBOUR: 'it returns false'. Refute it at one input. -/
def fnExactWayFaultWrong : ChangeSpec := { name := "fnExactWayFault", fn := fun _ => fun
  | [d] => { results := [.lit (.bool false)], args := [d] }
  | _ => none }
def FnExactWayFaultWrongFalsely : Prop := fnExactWayFaultRow.holds Try.pinned (OpenSpec.ofChange fnExactWayFaultWrong)

/-- 'laws.FnExactUsualWay': WHATEVER THE INPUT: true; the input reads as it did. -/
def fnExactUsualWaySpec : ChangeSpec := { name := "fnExactUsualWay", fn := fun _ => fun
  | [d] => { results := [.lit (.bool true)], args := [d] }
  | _ => none }
def fnExactUsualWayRow : OpenClaim := { program := "ytbfdpikijgeigaa", sum := "13ca3976cd0d05d7de5a7b56f3d29bba97737401f3b3249532b1997f64ce3cf8", func := "loop.example/g00523/laws.FnExactUsualWay", spec := "fnExactUsualWay", apart := false }
def FnExactUsualWaySaid : Prop := fnExactUsualWayRow.holds Try.pinned (OpenSpec.ofChange fnExactUsualWaySpec)

/-- ITS FALSE NEIGHBOUR: 'it returns false'. Refute it at one input. -/
def fnExactUsualWayWrong : ChangeSpec := { name := "fnExactUsualWay", fn := fun _ => fun
  | [d] => { results := [.lit (.bool false)], args := [d] }
  | _ => none }
def FnExactUsualWayWrongFalsely : Prop := fnExactUsualWayRow.holds Try.pinned (OpenSpec.ofChange fnExactUsualWayWrong)

/-- 'laws.FnExactHasFlag': WHATEVER THE INPUT: true; the input reads as it did. -/
def fnExactHasFlagSpec : ChangeSpec := { name := "fnExactHasFlag", fn := fun _ => fun
  | [d1, d2] => { results := [.lit (.bool true)], args := [d1, d2] }
  | _ => none }
def fnExactHasFlagRow : OpenClaim := { program := "ytbfdpikijgeigaa", sum := "13ca3976cd0d05d7de5a7b56f3d29bba97737401f3b3249532b1997f64ce3cf8", func := "loop.example/g00523/laws.FnExactHasFlag", spec := "fnExactHasFlag", apart := false }
def FnExactHasFlagSaid : Prop := fnExactHasFlagRow.holds Try.pinned (OpenSpec.ofChange fnExactHasFlagSpec)

/-- ITS FALSE NEIGHBOUR: 'it returns false'. Refute it at one input. -/
def fnExactHasFlagWrong : ChangeSpec := { name := "fnExactHasFlag", fn := fun _ => fun
  | [d1, d2] => { results := [.lit (.bool false)], args := [d1, d2] }
  | _ => none }
def FnExactHasFlagWrongFalsely : Prop := fnExactHasFlagRow.holds Try.pinned (OpenSpec.ofChange fnExactHasFlagWrong)

/-- 'laws.FnExactShownByte': WHATEVER THE INPUT: true; the input reads as it did. -/
def fnExactShownByteSpec : ChangeSpec := { name := "fnExactShownByte", fn := fun _ => fun
  | [d1, d2] => { results := [.lit (.bool true)], args := [d1, d2] }
  | _ => none }
def fnExactShownByteRow : OpenClaim := { program := "ytbfdpikijgeigaa", sum := "13ca3976cd0d05d7de5a7b56f3d29bba97737401f3b3249532b1997f64ce3cf8", func := "loop.example/g00523/laws.FnExactShownByte", spec := "fnExactShownByte", apart := false }
def FnExactShownByteSaid : Prop := fnExactShownByteRow.holds Try.pinned (OpenSpec.ofChange fnExactShownByteSpec)

/-- ITS FALSE NEIGHBOUR: 'it returns false'. Refute it at one input. -/
def fnExactShownByteWrong : ChangeSpec := { name := "fnExactShownByte", fn := fun _ => fun
  | [d1, d2] => { results := [.lit (.bool false)], args := [d1, d2] }
  | _ => none }
def FnExactShownByteWrongFalsely : Prop := fnExactShownByteRow.holds Try.pinned (OpenSpec.ofChange fnExactShownByteWrong)

/- THE SECOND FORM. 'bulk': how many values and letters a reading holds, each counted each time it is reached (what is shared counts as often as it is met; a slice's spare places count too). A statement '..UptoSaid' is the law's where the arguments, and the package variables that the reading takes, are together of bulk at most 1048576: NARROWER than '..Said'. Prove '..Said' where nothing that the law and all that it calls make is longer than what came in: it says more and counts as full. Else prove '..UptoSaid'. A law counts once. -/
mutual
def uptoBulk {H : Type} : DataW H → Nat
  | .lit (.string bytes) => bytes.length + 1
  | .lit _ => 1
  | .nil => 1
  | .ptr d => uptoBulk d + 1
  | .slice elems spare => uptoBulkAll elems + uptoBulkAll spare + 1
  | .agg parts => uptoBulkAll parts + 1
  | .iface _ d => uptoBulk d + 1
  | .map entries => uptoBulkEntries entries + 1
  | .held _ => 1
def uptoBulkAll {H : Type} : List (DataW H) → Nat
  | [] => 0
  | d :: r => uptoBulk d + uptoBulkAll r
def uptoBulkEntries {H : Type} : List (Lit × DataW H) → Nat
  | [] => 0
  | x :: r => uptoBulkEntry x + uptoBulkEntries r
def uptoBulkEntry {H : Type} : Lit × DataW H → Nat
  | (.string bytes, d) => bytes.length + uptoBulk d + 1
  | (_, d) => uptoBulk d + 1
 end
def uptoSmall : (H : Type) → List (DataW H) → Bool := fun _ ds => decide (uptoBulkAll ds ≤ 1048576)
def OpenSpec.upto (s : _root_.Go.ChangeSpec) : _root_.Go.OpenSpec := { _root_.Go.OpenSpec.ofChange s with cond := some uptoSmall }

/-- 'laws.FnExactConstants', WHERE WHAT IT READS IS OF BULK AT MOST 1048576: true; the input reads as it did. -/
def fnExactConstantsUptoRow : OpenClaim := { program := "ytbfdpikijgeigaa", sum := "13ca3976cd0d05d7de5a7b56f3d29bba97737401f3b3249532b1997f64ce3cf8", func := "loop.example/g00523/laws.FnExactConstants", spec := "fnExactConstants", apart := false, narrowed := true }
def FnExactConstantsUptoSaid : Prop := fnExactConstantsUptoRow.holds Try.pinned (OpenSpec.upto fnExactConstantsSpec)

/-- 'laws.FnExactWayFault', WHERE WHAT IT READS IS OF BULK AT MOST 1048576: true; the input reads as it did. -/
def fnExactWayFaultUptoRow : OpenClaim := { program := "ytbfdpikijgeigaa", sum := "13ca3976cd0d05d7de5a7b56f3d29bba97737401f3b3249532b1997f64ce3cf8", func := "loop.example/g00523/laws.FnExactWayFault", spec := "fnExactWayFault", apart := false, narrowed := true }
def FnExactWayFaultUptoSaid : Prop := fnExactWayFaultUptoRow.holds Try.pinned (OpenSpec.upto fnExactWayFaultSpec)

/-- 'laws.FnExactUsualWay', WHERE WHAT IT READS IS OF BULK AT MOST 1048576: true; the input reads as it did. -/
def fnExactUsualWayUptoRow : OpenClaim := { program := "ytbfdpikijgeigaa", sum := "13ca3976cd0d05d7de5a7b56f3d29bba97737401f3b3249532b1997f64ce3cf8", func := "loop.example/g00523/laws.FnExactUsualWay", spec := "fnExactUsualWay", apart := false, narrowed := true }
def FnExactUsualWayUptoSaid : Prop := fnExactUsualWayUptoRow.holds Try.pinned (OpenSpec.upto fnExactUsualWaySpec)

/-- 'laws.FnExactHasFlag', WHERE WHAT IT READS IS OF BULK AT MOST 1048576: true; the input reads as it did. -/
def fnExactHasFlagUptoRow : OpenClaim := { program := "ytbfdpikijgeigaa", sum := "13ca3976cd0d05d7de5a7b56f3d29bba97737401f3b3249532b1997f64ce3cf8", func := "loop.example/g00523/laws.FnExactHasFlag", spec := "fnExactHasFlag", apart := false, narrowed := true }
def FnExactHasFlagUptoSaid : Prop := fnExactHasFlagUptoRow.holds Try.pinned (OpenSpec.upto fnExactHasFlagSpec)

/-- 'laws.FnExactShownByte', WHERE WHAT IT READS IS OF BULK AT MOST 1048576: true; the input reads as it did. -/
def fnExactShownByteUptoRow : OpenClaim := { program := "ytbfdpikijgeigaa", sum := "13ca3976cd0d05d7de5a7b56f3d29bba97737401f3b3249532b1997f64ce3cf8", func := "loop.example/g00523/laws.FnExactShownByte", spec := "fnExactShownByte", apart := false, narrowed := true }
def FnExactShownByteUptoSaid : Prop := fnExactShownByteUptoRow.holds Try.pinned (OpenSpec.upto fnExactShownByteSpec)

end Rows
end Go.Proofs.Ytbfdpikijgeigaa
