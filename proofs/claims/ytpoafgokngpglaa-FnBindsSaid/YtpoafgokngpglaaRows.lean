/-
  No cell of these rows narrows 'for every input' (looked for: loops, veiled, ifaces, maps, wideKeys, modest, calm, conditions, laid).
  DERIVED. THE GIVEN ROWS OF THIS SEAT. 4 by the template 'for every input the law returns true; each argument reads behind the call as it read before'; 0 by the template 'total and deterministic' (their statements: YtpoafgokngpglaaTotals.lean).
  GIVEN WITH THE SEED: the statements are not yours to turn. If you find one false, say at which input.
  Laid BY PROGRAM, IN A SANDBOX (cutbox-rows.mjs): the forced cells as the released guide's own fill.sh prints them over the translation ad423f5048febe77… (all of the seat's roots in one cut). By AI agents, Wed Nov 11 2026. No macro, syntax, notation, axiom, sorry.
-/
import Derived.Test.YtpoafgokngpglaaChecked
import GoSem.Claim
import GoSem.ClaimJoined
import GoSem.ClaimMapViews
import Derived.JoinedTies
import Derived.KernelRfl
namespace Go.Proofs.Ytpoafgokngpglaa
/- THE CELL 'sum', in the pinned program and in every row, IS THE sha256 OF THE DUMP (.gsa) THAT YtpoafgokngpglaaProg.lean LOADS. Nothing in Lean hashes anything: it is a label: what it is worth is what the hold of that sum in a sandbox is worth. -/
noncomputable def Try.pinned : Pinned := { name := "ytpoafgokngpglaa", sum := "ad423f5048febe77b416e35f5443b96440d943f5cc0d93bdc52dc79e3e3e82a8", checked := Try.checked }
namespace Rows
def none {H : Type} : Left H := { results := [], args := [] }

/-- 'laws.FnFonts': WHATEVER THE INPUT: true; the input reads as it did. -/
def fnFontsSpec : ChangeSpec := { name := "fnFonts", fn := fun _ => fun
  | [d] => { results := [.lit (.bool true)], args := [d] }
  | _ => none }
def fnFontsRow : OpenClaim := { program := "ytpoafgokngpglaa", sum := "ad423f5048febe77b416e35f5443b96440d943f5cc0d93bdc52dc79e3e3e82a8", func := "loop.example/g00523/laws.FnFonts", spec := "fnFonts", inPlace := ["slices.overlaps[loop.example/g00523/impl.Pair]"], unfollowed := true, recurses := true, apart := false }
def FnFontsSaid : Prop := fnFontsRow.holds Try.pinned (OpenSpec.ofChange fnFontsSpec)

/-- ITS FALSE NEIGHBOUR: 'it returns false'. Refute it at one input. -/
def fnFontsWrong : ChangeSpec := { name := "fnFonts", fn := fun _ => fun
  | [d] => { results := [.lit (.bool false)], args := [d] }
  | _ => none }
def FnFontsWrongFalsely : Prop := fnFontsRow.holds Try.pinned (OpenSpec.ofChange fnFontsWrong)

/-- 'laws.FnExactPutPair': WHATEVER THE INPUT: true; the input reads as it did. -/
def fnExactPutPairSpec : ChangeSpec := { name := "fnExactPutPair", fn := fun _ => fun
  | [d1, d2] => { results := [.lit (.bool true)], args := [d1, d2] }
  | _ => none }
def fnExactPutPairRow : OpenClaim := { program := "ytpoafgokngpglaa", sum := "ad423f5048febe77b416e35f5443b96440d943f5cc0d93bdc52dc79e3e3e82a8", func := "loop.example/g00523/laws.FnExactPutPair", spec := "fnExactPutPair", inPlace := ["slices.overlaps[loop.example/g00523/impl.Pair]"], unfollowed := true, recurses := true, apart := false }
def FnExactPutPairSaid : Prop := fnExactPutPairRow.holds Try.pinned (OpenSpec.ofChange fnExactPutPairSpec)

/-- ITS FALSE NEIGHBOUR: 'it returns false'. Refute it at one input. -/
def fnExactPutPairWrong : ChangeSpec := { name := "fnExactPutPair", fn := fun _ => fun
  | [d1, d2] => { results := [.lit (.bool false)], args := [d1, d2] }
  | _ => none }
def FnExactPutPairWrongFalsely : Prop := fnExactPutPairRow.holds Try.pinned (OpenSpec.ofChange fnExactPutPairWrong)

/-- 'laws.FnExactPutBind': WHATEVER THE INPUT: true; the input reads as it did. -/
def fnExactPutBindSpec : ChangeSpec := { name := "fnExactPutBind", fn := fun _ => fun
  | [d1, d2] => { results := [.lit (.bool true)], args := [d1, d2] }
  | _ => none }
def fnExactPutBindRow : OpenClaim := { program := "ytpoafgokngpglaa", sum := "ad423f5048febe77b416e35f5443b96440d943f5cc0d93bdc52dc79e3e3e82a8", func := "loop.example/g00523/laws.FnExactPutBind", spec := "fnExactPutBind", inPlace := ["slices.overlaps[loop.example/g00523/impl.Bind]"], unfollowed := true, recurses := true, apart := false }
def FnExactPutBindSaid : Prop := fnExactPutBindRow.holds Try.pinned (OpenSpec.ofChange fnExactPutBindSpec)

/-- ITS FALSE NEIGHBOUR: 'it returns false'. Refute it at one input. -/
def fnExactPutBindWrong : ChangeSpec := { name := "fnExactPutBind", fn := fun _ => fun
  | [d1, d2] => { results := [.lit (.bool false)], args := [d1, d2] }
  | _ => none }
def FnExactPutBindWrongFalsely : Prop := fnExactPutBindRow.holds Try.pinned (OpenSpec.ofChange fnExactPutBindWrong)

/-- 'laws.FnBinds': WHATEVER THE INPUT: true; the input reads as it did. -/
def fnBindsSpec : ChangeSpec := { name := "fnBinds", fn := fun _ => fun
  | [d] => { results := [.lit (.bool true)], args := [d] }
  | _ => none }
def fnBindsRow : OpenClaim := { program := "ytpoafgokngpglaa", sum := "ad423f5048febe77b416e35f5443b96440d943f5cc0d93bdc52dc79e3e3e82a8", func := "loop.example/g00523/laws.FnBinds", spec := "fnBinds", inPlace := ["slices.overlaps[loop.example/g00523/impl.Bind]"], unfollowed := true, recurses := true, apart := false }
def FnBindsSaid : Prop := fnBindsRow.holds Try.pinned (OpenSpec.ofChange fnBindsSpec)

/-- ITS FALSE NEIGHBOUR: 'it returns false'. Refute it at one input. -/
def fnBindsWrong : ChangeSpec := { name := "fnBinds", fn := fun _ => fun
  | [d] => { results := [.lit (.bool false)], args := [d] }
  | _ => none }
def FnBindsWrongFalsely : Prop := fnBindsRow.holds Try.pinned (OpenSpec.ofChange fnBindsWrong)

/- THE SECOND FORM. 'bulk': how many values and letters a reading holds, each counted each time it is reached (what is shared counts as often as it is met; a slice's spare places count too). A statement '..UptoSaid' is the law's where the arguments, and the package variables that the reading takes, are together of bulk at most 1048576: NARROWER than '..Said'. Prove '..Said' where nothing that the law and all that it calls make is longer than what came in: it says more and counts as full. Else prove '..UptoSaid'. A law counts once. -/
mutual
def uptoBulk {H : Type} : DataW H → Nat
  | .lit (.string bytes) => bytes.length + 1
  | .lit _ => 1
  | .nil => 1
  | .ptr d => uptoBulk d + 1
  | .slice elems spare => uptoBulkAll elems + uptoBulkAll spare + 1
  | .agg parts => uptoBulkAll parts + 1
  | .iface _ d => uptoBulk d + 1
  | .map entries => uptoBulkEntries entries + 1
  | .held _ => 1
def uptoBulkAll {H : Type} : List (DataW H) → Nat
  | [] => 0
  | d :: r => uptoBulk d + uptoBulkAll r
def uptoBulkEntries {H : Type} : List (Lit × DataW H) → Nat
  | [] => 0
  | x :: r => uptoBulkEntry x + uptoBulkEntries r
def uptoBulkEntry {H : Type} : Lit × DataW H → Nat
  | (.string bytes, d) => bytes.length + uptoBulk d + 1
  | (_, d) => uptoBulk d + 1
 end
def uptoSmall : (H : Type) → List (DataW H) → Bool := fun _ ds => decide (uptoBulkAll ds ≤ 1048576)
def OpenSpec.upto (s : _root_.Go.ChangeSpec) : _root_.Go.OpenSpec := { _root_.Go.OpenSpec.ofChange s with cond := some uptoSmall }

/-- 'laws.FnFonts', WHERE WHAT IT READS IS OF BULK AT MOST 1048576: true; the input reads as it did. -/
def fnFontsUptoRow : OpenClaim := { program := "ytpoafgokngpglaa", sum := "ad423f5048febe77b416e35f5443b96440d943f5cc0d93bdc52dc79e3e3e82a8", func := "loop.example/g00523/laws.FnFonts", spec := "fnFonts", inPlace := ["slices.overlaps[loop.example/g00523/impl.Pair]"], unfollowed := true, recurses := true, apart := false, narrowed := true }
def FnFontsUptoSaid : Prop := fnFontsUptoRow.holds Try.pinned (OpenSpec.upto fnFontsSpec)

/-- 'laws.FnExactPutPair', WHERE WHAT IT READS IS OF BULK AT MOST 1048576: true; the input reads as it did. -/
def fnExactPutPairUptoRow : OpenClaim := { program := "ytpoafgokngpglaa", sum := "ad423f5048febe77b416e35f5443b96440d943f5cc0d93bdc52dc79e3e3e82a8", func := "loop.example/g00523/laws.FnExactPutPair", spec := "fnExactPutPair", inPlace := ["slices.overlaps[loop.example/g00523/impl.Pair]"], unfollowed := true, recurses := true, apart := false, narrowed := true }
def FnExactPutPairUptoSaid : Prop := fnExactPutPairUptoRow.holds Try.pinned (OpenSpec.upto fnExactPutPairSpec)

/-- 'laws.FnExactPutBind', WHERE WHAT IT READS IS OF BULK AT MOST 1048576: true; the input reads as it did. -/
def fnExactPutBindUptoRow : OpenClaim := { program := "ytpoafgokngpglaa", sum := "ad423f5048febe77b416e35f5443b96440d943f5cc0d93bdc52dc79e3e3e82a8", func := "loop.example/g00523/laws.FnExactPutBind", spec := "fnExactPutBind", inPlace := ["slices.overlaps[loop.example/g00523/impl.Bind]"], unfollowed := true, recurses := true, apart := false, narrowed := true }
def FnExactPutBindUptoSaid : Prop := fnExactPutBindUptoRow.holds Try.pinned (OpenSpec.upto fnExactPutBindSpec)

/-- 'laws.FnBinds', WHERE WHAT IT READS IS OF BULK AT MOST 1048576: true; the input reads as it did. -/
def fnBindsUptoRow : OpenClaim := { program := "ytpoafgokngpglaa", sum := "ad423f5048febe77b416e35f5443b96440d943f5cc0d93bdc52dc79e3e3e82a8", func := "loop.example/g00523/laws.FnBinds", spec := "fnBinds", inPlace := ["slices.overlaps[loop.example/g00523/impl.Bind]"], unfollowed := true, recurses := true, apart := false, narrowed := true }
def FnBindsUptoSaid : Prop := fnBindsUptoRow.holds Try.pinned (OpenSpec.upto fnBindsSpec)

end Rows
end Go.Proofs.Ytpoafgokngpglaa
