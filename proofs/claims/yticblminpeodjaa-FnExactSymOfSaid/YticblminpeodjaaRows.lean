/-
  No cell of these rows narrows 'for every input' (looked for: loops, veiled, ifaces, maps, wideKeys, modest, calm, conditions, laid).
  DERIVED. THE GIVEN ROWS OF THIS SEAT. 9 by the template 'for every input the law returns true; each argument reads behind the call as it read before'; 0 by the template 'total and deterministic' (their statements: YticblminpeodjaaTotals.lean).
  GIVEN WITH THE SEED: the statements are not yours to turn. If you find one false, say at which input.
  Laid BY PROGRAM, IN A SANDBOX (cutbox-rows.mjs): the forced cells as the released guide's own fill.sh prints them over the translation 828faaefe781824b… (all of the seat's roots in one cut). By AI agents, Wed Nov 11 2026. No macro, syntax, notation, axiom, sorry.
-/
import Derived.Test.YticblminpeodjaaChecked
import GoSem.Claim
import GoSem.ClaimJoined
import GoSem.ClaimMapViews
import Derived.JoinedTies
import Derived.KernelRfl
namespace Go.Proofs.Yticblminpeodjaa
/- THE CELL 'sum', in the pinned program and in every row, IS THE sha256 OF THE DUMP (.gsa) THAT YticblminpeodjaaProg.lean LOADS. Nothing in Lean hashes anything: it is a label: what it is worth is what the hold of that sum in a sandbox is worth. -/
noncomputable def Try.pinned : Pinned := { name := "yticblminpeodjaa", sum := "828faaefe781824b85f2ef1c882cdbfbbdc5ad10d1d86b9e66ebac5c343b442a", checked := Try.checked }
namespace Rows
def none {H : Type} : Left H := { results := [], args := [] }

/-- 'laws.FnExactSymFault': WHATEVER THE INPUT: true; the input reads as it did. -/
def fnExactSymFaultSpec : ChangeSpec := { name := "fnExactSymFault", fn := fun _ => fun
  | [d] => { results := [.lit (.bool true)], args := [d] }
  | _ => none }
def fnExactSymFaultRow : OpenClaim := { program := "yticblminpeodjaa", sum := "828faaefe781824b85f2ef1c882cdbfbbdc5ad10d1d86b9e66ebac5c343b442a", func := "loop.example/g00523/laws.FnExactSymFault", spec := "fnExactSymFault", apart := false }
def FnExactSymFaultSaid : Prop := fnExactSymFaultRow.holds Try.pinned (OpenSpec.ofChange fnExactSymFaultSpec)

/-- ITS FALSE NEIGHBOUR: 'it returns false'. Refute it at one input. -/
def fnExactSymFaultWrong : ChangeSpec := { name := "fnExactSymFault", fn := fun _ => fun
  | [d] => { results := [.lit (.bool false)], args := [d] }
  | _ => none }
def FnExactSymFaultWrongFalsely : Prop := fnExactSymFaultRow.holds Try.pinned (OpenSpec.ofChange fnExactSymFaultWrong)

/-- 'laws.FnExactTextsFault': WHATEVER THE INPUT: true; the input reads as it did. -/
def fnExactTextsFaultSpec : ChangeSpec := { name := "fnExactTextsFault", fn := fun _ => fun
  | [d] => { results := [.lit (.bool true)], args := [d] }
  | _ => none }
def fnExactTextsFaultRow : OpenClaim := { program := "yticblminpeodjaa", sum := "828faaefe781824b85f2ef1c882cdbfbbdc5ad10d1d86b9e66ebac5c343b442a", func := "loop.example/g00523/laws.FnExactTextsFault", spec := "fnExactTextsFault", unfollowed := true, recurses := true, apart := false }
def FnExactTextsFaultSaid : Prop := fnExactTextsFaultRow.holds Try.pinned (OpenSpec.ofChange fnExactTextsFaultSpec)

/-- ITS FALSE NEIGHBOUR: 'it returns false'. Refute it at one input. -/
def fnExactTextsFaultWrong : ChangeSpec := { name := "fnExactTextsFault", fn := fun _ => fun
  | [d] => { results := [.lit (.bool false)], args := [d] }
  | _ => none }
def FnExactTextsFaultWrongFalsely : Prop := fnExactTextsFaultRow.holds Try.pinned (OpenSpec.ofChange fnExactTextsFaultWrong)

/-- 'laws.FnExactKeyboardFault': WHATEVER THE INPUT: true; the input reads as it did. -/
def fnExactKeyboardFaultSpec : ChangeSpec := { name := "fnExactKeyboardFault", fn := fun _ => fun
  | [d] => { results := [.lit (.bool true)], args := [d] }
  | _ => none }
def fnExactKeyboardFaultRow : OpenClaim := { program := "yticblminpeodjaa", sum := "828faaefe781824b85f2ef1c882cdbfbbdc5ad10d1d86b9e66ebac5c343b442a", func := "loop.example/g00523/laws.FnExactKeyboardFault", spec := "fnExactKeyboardFault", apart := false }
def FnExactKeyboardFaultSaid : Prop := fnExactKeyboardFaultRow.holds Try.pinned (OpenSpec.ofChange fnExactKeyboardFaultSpec)

/-- ITS FALSE NEIGHBOUR: 'it returns false'. Refute it at one input. -/
def fnExactKeyboardFaultWrong : ChangeSpec := { name := "fnExactKeyboardFault", fn := fun _ => fun
  | [d] => { results := [.lit (.bool false)], args := [d] }
  | _ => none }
def FnExactKeyboardFaultWrongFalsely : Prop := fnExactKeyboardFaultRow.holds Try.pinned (OpenSpec.ofChange fnExactKeyboardFaultWrong)

/-- 'laws.FnExactModsOf': WHATEVER THE INPUT: true; the input reads as it did. -/
def fnExactModsOfSpec : ChangeSpec := { name := "fnExactModsOf", fn := fun _ => fun
  | [d] => { results := [.lit (.bool true)], args := [d] }
  | _ => none }
def fnExactModsOfRow : OpenClaim := { program := "yticblminpeodjaa", sum := "828faaefe781824b85f2ef1c882cdbfbbdc5ad10d1d86b9e66ebac5c343b442a", func := "loop.example/g00523/laws.FnExactModsOf", spec := "fnExactModsOf", apart := false }
def FnExactModsOfSaid : Prop := fnExactModsOfRow.holds Try.pinned (OpenSpec.ofChange fnExactModsOfSpec)

/-- ITS FALSE NEIGHBOUR: 'it returns false'. Refute it at one input. -/
def fnExactModsOfWrong : ChangeSpec := { name := "fnExactModsOf", fn := fun _ => fun
  | [d] => { results := [.lit (.bool false)], args := [d] }
  | _ => none }
def FnExactModsOfWrongFalsely : Prop := fnExactModsOfRow.holds Try.pinned (OpenSpec.ofChange fnExactModsOfWrong)

/-- 'laws.FnExactSameKeyboards': WHATEVER THE INPUT: true; the input reads as it did. -/
def fnExactSameKeyboardsSpec : ChangeSpec := { name := "fnExactSameKeyboards", fn := fun _ => fun
  | [d1, d2] => { results := [.lit (.bool true)], args := [d1, d2] }
  | _ => none }
def fnExactSameKeyboardsRow : OpenClaim := { program := "yticblminpeodjaa", sum := "828faaefe781824b85f2ef1c882cdbfbbdc5ad10d1d86b9e66ebac5c343b442a", func := "loop.example/g00523/laws.FnExactSameKeyboards", spec := "fnExactSameKeyboards", apart := false }
def FnExactSameKeyboardsSaid : Prop := fnExactSameKeyboardsRow.holds Try.pinned (OpenSpec.ofChange fnExactSameKeyboardsSpec)

/-- ITS FALSE NEIGHBOUR: 'it returns false'. Refute it at one input. -/
def fnExactSameKeyboardsWrong : ChangeSpec := { name := "fnExactSameKeyboards", fn := fun _ => fun
  | [d1, d2] => { results := [.lit (.bool false)], args := [d1, d2] }
  | _ => none }
def FnExactSameKeyboardsWrongFalsely : Prop := fnExactSameKeyboardsRow.holds Try.pinned (OpenSpec.ofChange fnExactSameKeyboardsWrong)

/-- 'laws.FnExactBindsFault': WHATEVER THE INPUT: true; the input reads as it did. -/
def fnExactBindsFaultSpec : ChangeSpec := { name := "fnExactBindsFault", fn := fun _ => fun
  | [d] => { results := [.lit (.bool true)], args := [d] }
  | _ => none }
def fnExactBindsFaultRow : OpenClaim := { program := "yticblminpeodjaa", sum := "828faaefe781824b85f2ef1c882cdbfbbdc5ad10d1d86b9e66ebac5c343b442a", func := "loop.example/g00523/laws.FnExactBindsFault", spec := "fnExactBindsFault", apart := false }
def FnExactBindsFaultSaid : Prop := fnExactBindsFaultRow.holds Try.pinned (OpenSpec.ofChange fnExactBindsFaultSpec)

/-- ITS FALSE NEIGHBOUR: 'it returns false'. Refute it at one input. -/
def fnExactBindsFaultWrong : ChangeSpec := { name := "fnExactBindsFault", fn := fun _ => fun
  | [d] => { results := [.lit (.bool false)], args := [d] }
  | _ => none }
def FnExactBindsFaultWrongFalsely : Prop := fnExactBindsFaultRow.holds Try.pinned (OpenSpec.ofChange fnExactBindsFaultWrong)

/-- 'laws.FnExactSymOf': WHATEVER THE INPUT: true; the input reads as it did. -/
def fnExactSymOfSpec : ChangeSpec := { name := "fnExactSymOf", fn := fun _ => fun
  | [d1, d2, d3] => { results := [.lit (.bool true)], args := [d1, d2, d3] }
  | _ => none }
def fnExactSymOfRow : OpenClaim := { program := "yticblminpeodjaa", sum := "828faaefe781824b85f2ef1c882cdbfbbdc5ad10d1d86b9e66ebac5c343b442a", func := "loop.example/g00523/laws.FnExactSymOf", spec := "fnExactSymOf", unfollowed := true, recurses := true, apart := false }
def FnExactSymOfSaid : Prop := fnExactSymOfRow.holds Try.pinned (OpenSpec.ofChange fnExactSymOfSpec)

/-- ITS FALSE NEIGHBOUR: 'it returns false'. Refute it at one input. -/
def fnExactSymOfWrong : ChangeSpec := { name := "fnExactSymOf", fn := fun _ => fun
  | [d1, d2, d3] => { results := [.lit (.bool false)], args := [d1, d2, d3] }
  | _ => none }
def FnExactSymOfWrongFalsely : Prop := fnExactSymOfRow.holds Try.pinned (OpenSpec.ofChange fnExactSymOfWrong)

/-- 'laws.FnExactPutBind': WHATEVER THE INPUT: true; the input reads as it did. -/
def fnExactPutBindSpec : ChangeSpec := { name := "fnExactPutBind", fn := fun _ => fun
  | [d1, d2] => { results := [.lit (.bool true)], args := [d1, d2] }
  | _ => none }
def fnExactPutBindRow : OpenClaim := { program := "yticblminpeodjaa", sum := "828faaefe781824b85f2ef1c882cdbfbbdc5ad10d1d86b9e66ebac5c343b442a", func := "loop.example/g00523/laws.FnExactPutBind", spec := "fnExactPutBind", inPlace := ["slices.overlaps[loop.example/g00523/impl.Bind]"], unfollowed := true, recurses := true, apart := false }
def FnExactPutBindSaid : Prop := fnExactPutBindRow.holds Try.pinned (OpenSpec.ofChange fnExactPutBindSpec)

/-- ITS FALSE NEIGHBOUR: 'it returns false'. Refute it at one input. -/
def fnExactPutBindWrong : ChangeSpec := { name := "fnExactPutBind", fn := fun _ => fun
  | [d1, d2] => { results := [.lit (.bool false)], args := [d1, d2] }
  | _ => none }
def FnExactPutBindWrongFalsely : Prop := fnExactPutBindRow.holds Try.pinned (OpenSpec.ofChange fnExactPutBindWrong)

/-- 'laws.FnBinds': WHATEVER THE INPUT: true; the input reads as it did. -/
def fnBindsSpec : ChangeSpec := { name := "fnBinds", fn := fun _ => fun
  | [d] => { results := [.lit (.bool true)], args := [d] }
  | _ => none }
def fnBindsRow : OpenClaim := { program := "yticblminpeodjaa", sum := "828faaefe781824b85f2ef1c882cdbfbbdc5ad10d1d86b9e66ebac5c343b442a", func := "loop.example/g00523/laws.FnBinds", spec := "fnBinds", inPlace := ["slices.overlaps[loop.example/g00523/impl.Bind]"], unfollowed := true, recurses := true, apart := false }
def FnBindsSaid : Prop := fnBindsRow.holds Try.pinned (OpenSpec.ofChange fnBindsSpec)

/-- ITS FALSE NEIGHBOUR: 'it returns false'. Refute it at one input. -/
def fnBindsWrong : ChangeSpec := { name := "fnBinds", fn := fun _ => fun
  | [d] => { results := [.lit (.bool false)], args := [d] }
  | _ => none }
def FnBindsWrongFalsely : Prop := fnBindsRow.holds Try.pinned (OpenSpec.ofChange fnBindsWrong)

/- THE SECOND FORM. 'bulk': how many values and letters a reading holds, each counted each time it is reached (what is shared counts as often as it is met; a slice's spare places count too). A statement '..UptoSaid' is the law's where the arguments, and the package variables that the reading takes, are together of bulk at most 1048576: NARROWER than '..Said'. Prove '..Said' where nothing that the law and all that it calls make is longer than what came in: it says more and counts as full. Else prove '..UptoSaid'. A law counts once. -/
mutual
def uptoBulk {H : Type} : DataW H → Nat
  | .lit (.string bytes) => bytes.length + 1
  | .lit _ => 1
  | .nil => 1
  | .ptr d => uptoBulk d + 1
  | .slice elems spare => uptoBulkAll elems + uptoBulkAll spare + 1
  | .agg parts => uptoBulkAll parts + 1
  | .iface _ d => uptoBulk d + 1
  | .map entries => uptoBulkEntries entries + 1
  | .held _ => 1
def uptoBulkAll {H : Type} : List (DataW H) → Nat
  | [] => 0
  | d :: r => uptoBulk d + uptoBulkAll r
def uptoBulkEntries {H : Type} : List (Lit × DataW H) → Nat
  | [] => 0
  | x :: r => uptoBulkEntry x + uptoBulkEntries r
def uptoBulkEntry {H : Type} : Lit × DataW H → Nat
  | (.string bytes, d) => bytes.length + uptoBulk d + 1
  | (_, d) => uptoBulk d + 1
 end
def uptoSmall : (H : Type) → List (DataW H) → Bool := fun _ ds => decide (uptoBulkAll ds ≤ 1048576)
def OpenSpec.upto (s : _root_.Go.ChangeSpec) : _root_.Go.OpenSpec := { _root_.Go.OpenSpec.ofChange s with cond := some uptoSmall }

/-- 'laws.FnExactSymFault', WHERE WHAT IT READS IS OF BULK AT MOST 1048576: true; the input reads as it did. -/
def fnExactSymFaultUptoRow : OpenClaim := { program := "yticblminpeodjaa", sum := "828faaefe781824b85f2ef1c882cdbfbbdc5ad10d1d86b9e66ebac5c343b442a", func := "loop.example/g00523/laws.FnExactSymFault", spec := "fnExactSymFault", apart := false, narrowed := true }
def FnExactSymFaultUptoSaid : Prop := fnExactSymFaultUptoRow.holds Try.pinned (OpenSpec.upto fnExactSymFaultSpec)

/-- 'laws.FnExactTextsFault', WHERE WHAT IT READS IS OF BULK AT MOST 1048576: true; the input reads as it did. -/
def fnExactTextsFaultUptoRow : OpenClaim := { program := "yticblminpeodjaa", sum := "828faaefe781824b85f2ef1c882cdbfbbdc5ad10d1d86b9e66ebac5c343b442a", func := "loop.example/g00523/laws.FnExactTextsFault", spec := "fnExactTextsFault", unfollowed := true, recurses := true, apart := false, narrowed := true }
def FnExactTextsFaultUptoSaid : Prop := fnExactTextsFaultUptoRow.holds Try.pinned (OpenSpec.upto fnExactTextsFaultSpec)

/-- 'laws.FnExactKeyboardFault', WHERE WHAT IT READS IS OF BULK AT MOST 1048576: true; the input reads as it did. -/
def fnExactKeyboardFaultUptoRow : OpenClaim := { program := "yticblminpeodjaa", sum := "828faaefe781824b85f2ef1c882cdbfbbdc5ad10d1d86b9e66ebac5c343b442a", func := "loop.example/g00523/laws.FnExactKeyboardFault", spec := "fnExactKeyboardFault", apart := false, narrowed := true }
def FnExactKeyboardFaultUptoSaid : Prop := fnExactKeyboardFaultUptoRow.holds Try.pinned (OpenSpec.upto fnExactKeyboardFaultSpec)

/-- 'laws.FnExactModsOf', WHERE WHAT IT READS IS OF BULK AT MOST 1048576: true; the input reads as it did. -/
def fnExactModsOfUptoRow : OpenClaim := { program := "yticblminpeodjaa", sum := "828faaefe781824b85f2ef1c882cdbfbbdc5ad10d1d86b9e66ebac5c343b442a", func := "loop.example/g00523/laws.FnExactModsOf", spec := "fnExactModsOf", apart := false, narrowed := true }
def FnExactModsOfUptoSaid : Prop := fnExactModsOfUptoRow.holds Try.pinned (OpenSpec.upto fnExactModsOfSpec)

/-- 'laws.FnExactSameKeyboards', WHERE WHAT IT READS IS OF BULK AT MOST 1048576: true; the input reads as it did. -/
def fnExactSameKeyboardsUptoRow : OpenClaim := { program := "yticblminpeodjaa", sum := "828faaefe781824b85f2ef1c882cdbfbbdc5ad10d1d86b9e66ebac5c343b442a", func := "loop.example/g00523/laws.FnExactSameKeyboards", spec := "fnExactSameKeyboards", apart := false, narrowed := true }
def FnExactSameKeyboardsUptoSaid : Prop := fnExactSameKeyboardsUptoRow.holds Try.pinned (OpenSpec.upto fnExactSameKeyboardsSpec)

/-- 'laws.FnExactBindsFault', WHERE WHAT IT READS IS OF BULK AT MOST 1048576: true; the input reads as it did. -/
def fnExactBindsFaultUptoRow : OpenClaim := { program := "yticblminpeodjaa", sum := "828faaefe781824b85f2ef1c882cdbfbbdc5ad10d1d86b9e66ebac5c343b442a", func := "loop.example/g00523/laws.FnExactBindsFault", spec := "fnExactBindsFault", apart := false, narrowed := true }
def FnExactBindsFaultUptoSaid : Prop := fnExactBindsFaultUptoRow.holds Try.pinned (OpenSpec.upto fnExactBindsFaultSpec)

/-- 'laws.FnExactSymOf', WHERE WHAT IT READS IS OF BULK AT MOST 1048576: true; the input reads as it did. -/
def fnExactSymOfUptoRow : OpenClaim := { program := "yticblminpeodjaa", sum := "828faaefe781824b85f2ef1c882cdbfbbdc5ad10d1d86b9e66ebac5c343b442a", func := "loop.example/g00523/laws.FnExactSymOf", spec := "fnExactSymOf", unfollowed := true, recurses := true, apart := false, narrowed := true }
def FnExactSymOfUptoSaid : Prop := fnExactSymOfUptoRow.holds Try.pinned (OpenSpec.upto fnExactSymOfSpec)

/-- 'laws.FnExactPutBind', WHERE WHAT IT READS IS OF BULK AT MOST 1048576: true; the input reads as it did. -/
def fnExactPutBindUptoRow : OpenClaim := { program := "yticblminpeodjaa", sum := "828faaefe781824b85f2ef1c882cdbfbbdc5ad10d1d86b9e66ebac5c343b442a", func := "loop.example/g00523/laws.FnExactPutBind", spec := "fnExactPutBind", inPlace := ["slices.overlaps[loop.example/g00523/impl.Bind]"], unfollowed := true, recurses := true, apart := false, narrowed := true }
def FnExactPutBindUptoSaid : Prop := fnExactPutBindUptoRow.holds Try.pinned (OpenSpec.upto fnExactPutBindSpec)

/-- 'laws.FnBinds', WHERE WHAT IT READS IS OF BULK AT MOST 1048576: true; the input reads as it did. -/
def fnBindsUptoRow : OpenClaim := { program := "yticblminpeodjaa", sum := "828faaefe781824b85f2ef1c882cdbfbbdc5ad10d1d86b9e66ebac5c343b442a", func := "loop.example/g00523/laws.FnBinds", spec := "fnBinds", inPlace := ["slices.overlaps[loop.example/g00523/impl.Bind]"], unfollowed := true, recurses := true, apart := false, narrowed := true }
def FnBindsUptoSaid : Prop := fnBindsUptoRow.holds Try.pinned (OpenSpec.upto fnBindsSpec)

end Rows
end Go.Proofs.Yticblminpeodjaa
