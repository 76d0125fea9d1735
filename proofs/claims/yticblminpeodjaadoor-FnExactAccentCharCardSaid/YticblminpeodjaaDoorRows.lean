/-
  NARROWER THAN 'FOR EVERY INPUT', by the rows' own cells (each row's printed sentence says how): FnExactAccentChar: laid · FnExactComposeChar: laid · FnAccents: laid.
  DERIVED. THE GIVEN ROWS OF THIS SEAT. 3 by the template 'for every input the law returns true; each argument reads behind the call as it read before'; 0 by the template 'total and deterministic' (their statements: YticblminpeodjaaDoorTotals.lean).
  GIVEN WITH THE SEED: the statements are not yours to turn. If you find one false, say at which input.
  Laid BY PROGRAM, IN A SANDBOX (cutbox-rows.mjs): the forced cells as the released guide's own fill.sh prints them over the translation 13f4b22a9d167f42… (all of the seat's roots in one cut). By AI agents, Wed Nov 11 2026. No macro, syntax, notation, axiom, sorry.
-/
import Derived.Test.YticblminpeodjaaDoorChecked
import GoSem.Claim
import GoSem.ClaimJoined
import GoSem.ClaimMapViews
import Derived.JoinedTies
import Derived.KernelRfl
namespace Go.Proofs.YticblminpeodjaaDoor
/- THE CELL 'sum', in the pinned program and in every row, IS THE sha256 OF THE DUMP (.gsa) THAT YticblminpeodjaaDoorProg.lean LOADS. Nothing in Lean hashes anything: it is a label: what it is worth is what the hold of that sum in a sandbox is worth. -/
noncomputable def Tryd.pinned : Pinned := { name := "yticblminpeodjaadoor", sum := "13f4b22a9d167f422c13b4c2e5c98648b186a860a129a05750cea31ea7550ab8", checked := Tryd.checked }
namespace Rows
def none {H : Type} : Left H := { results := [], args := [] }

/- WHAT THE LISTED PACKAGE-LEVEL VARIABLES READ AS WHEN THE CALL BEGINS. Each datum BY PROGRAM (the guide's laid-datum.mjs) off the statement by which the dump's own 'gosem.cut.vars' lays the variable. In a bare row this is a premise. The card (YticblminpeodjaaDoorCards.lean) ties it to the program's text. -/
def laid_loop_example_g00523_impl_accents {H : Type} : DataW H := .slice [.lit (.int .i64 0), .lit (.int .i64 96), .lit (.int .i64 39), .lit (.int .i64 34)] []
def laid_loop_example_g00523_impl_plainLetters {H : Type} : DataW H := .slice [.lit (.string []), .lit (.string [97, 101, 111]), .lit (.string [97, 101, 111]), .lit (.string [97, 111, 117])] []
def laid_loop_example_g00523_impl_accented {H : Type} : DataW H := .slice [.nil, .slice [.lit (.int .i64 224), .lit (.int .i64 232), .lit (.int .i64 242)] [], .slice [.lit (.int .i64 225), .lit (.int .i64 233), .lit (.int .i64 243)] [], .slice [.lit (.int .i64 228), .lit (.int .i64 246), .lit (.int .i64 252)] []] []

/-- 'laws.FnExactAccentChar': WHATEVER THE INPUT: true; the input reads as it did. -/
def fnExactAccentCharSpec : ChangeSpec := { name := "fnExactAccentChar", vars := ["loop.example/g00523/impl.accents"], fn := fun _ => fun
  | [d, g1] => { results := [.lit (.bool true)], args := [d], vars := [g1] }
  | _ => none }
def fnExactAccentCharRow : OpenClaim := { program := "yticblminpeodjaadoor", sum := "13f4b22a9d167f422c13b4c2e5c98648b186a860a129a05750cea31ea7550ab8", func := "loop.example/g00523/laws.FnExactAccentChar", spec := "fnExactAccentChar", named := ["loop.example/g00523/impl.accents"], apart := false, laid := [("loop.example/g00523/impl.accents", laid_loop_example_g00523_impl_accents)] }
def FnExactAccentCharSaid : Prop := fnExactAccentCharRow.holds Tryd.pinned (OpenSpec.ofChange fnExactAccentCharSpec)

/-- ITS FALSE NEIGHBOUR: 'it returns false'. Refute it at one input. -/
def fnExactAccentCharWrong : ChangeSpec := { name := "fnExactAccentChar", vars := ["loop.example/g00523/impl.accents"], fn := fun _ => fun
  | [d, g1] => { results := [.lit (.bool false)], args := [d], vars := [g1] }
  | _ => none }
def FnExactAccentCharWrongFalsely : Prop := fnExactAccentCharRow.holds Tryd.pinned (OpenSpec.ofChange fnExactAccentCharWrong)

/-- 'laws.FnExactComposeChar': WHATEVER THE INPUT: true; the input reads as it did. -/
def fnExactComposeCharSpec : ChangeSpec := { name := "fnExactComposeChar", vars := ["loop.example/g00523/impl.plainLetters", "loop.example/g00523/impl.accented"], fn := fun _ => fun
  | [d1, d2, g1, g2] => { results := [.lit (.bool true)], args := [d1, d2], vars := [g1, g2] }
  | _ => none }
def fnExactComposeCharRow : OpenClaim := { program := "yticblminpeodjaadoor", sum := "13f4b22a9d167f422c13b4c2e5c98648b186a860a129a05750cea31ea7550ab8", func := "loop.example/g00523/laws.FnExactComposeChar", spec := "fnExactComposeChar", recurses := true, named := ["loop.example/g00523/impl.plainLetters", "loop.example/g00523/impl.accented"], apart := false, laid := [("loop.example/g00523/impl.plainLetters", laid_loop_example_g00523_impl_plainLetters), ("loop.example/g00523/impl.accented", laid_loop_example_g00523_impl_accented)] }
def FnExactComposeCharSaid : Prop := fnExactComposeCharRow.holds Tryd.pinned (OpenSpec.ofChange fnExactComposeCharSpec)

/-- ITS FALSE NEIGHBOUR: 'it returns false'. Refute it at one input. -/
def fnExactComposeCharWrong : ChangeSpec := { name := "fnExactComposeChar", vars := ["loop.example/g00523/impl.plainLetters", "loop.example/g00523/impl.accented"], fn := fun _ => fun
  | [d1, d2, g1, g2] => { results := [.lit (.bool false)], args := [d1, d2], vars := [g1, g2] }
  | _ => none }
def FnExactComposeCharWrongFalsely : Prop := fnExactComposeCharRow.holds Tryd.pinned (OpenSpec.ofChange fnExactComposeCharWrong)

/-- 'laws.FnAccents': WHATEVER THE INPUT: true; the input reads as it did. -/
def fnAccentsSpec : ChangeSpec := { name := "fnAccents", vars := ["loop.example/g00523/impl.plainLetters", "loop.example/g00523/impl.accented", "loop.example/g00523/impl.accents"], fn := fun _ => fun
  | [d, g1, g2, g3] => { results := [.lit (.bool true)], args := [d], vars := [g1, g2, g3] }
  | _ => none }
def fnAccentsRow : OpenClaim := { program := "yticblminpeodjaadoor", sum := "13f4b22a9d167f422c13b4c2e5c98648b186a860a129a05750cea31ea7550ab8", func := "loop.example/g00523/laws.FnAccents", spec := "fnAccents", recurses := true, named := ["loop.example/g00523/impl.plainLetters", "loop.example/g00523/impl.accented", "loop.example/g00523/impl.accents"], apart := false, laid := [("loop.example/g00523/impl.plainLetters", laid_loop_example_g00523_impl_plainLetters), ("loop.example/g00523/impl.accented", laid_loop_example_g00523_impl_accented), ("loop.example/g00523/impl.accents", laid_loop_example_g00523_impl_accents)] }
def FnAccentsSaid : Prop := fnAccentsRow.holds Tryd.pinned (OpenSpec.ofChange fnAccentsSpec)

/-- ITS FALSE NEIGHBOUR: 'it returns false'. Refute it at one input. -/
def fnAccentsWrong : ChangeSpec := { name := "fnAccents", vars := ["loop.example/g00523/impl.plainLetters", "loop.example/g00523/impl.accented", "loop.example/g00523/impl.accents"], fn := fun _ => fun
  | [d, g1, g2, g3] => { results := [.lit (.bool false)], args := [d], vars := [g1, g2, g3] }
  | _ => none }
def FnAccentsWrongFalsely : Prop := fnAccentsRow.holds Tryd.pinned (OpenSpec.ofChange fnAccentsWrong)

/- THE SECOND FORM. 'bulk': how many values and letters a reading holds, each counted each time it is reached (what is shared counts as often as it is met; a slice's spare places count too). A statement '..UptoSaid' is the law's where the arguments, and the package variables that the reading takes, are together of bulk at most 1048576: NARROWER than '..Said'. Prove '..Said' where nothing that the law and all that it calls make is longer than what came in: it says more and counts as full. Else prove '..UptoSaid'. A law counts once. -/
mutual
def uptoBulk {H : Type} : DataW H → Nat
  | .lit (.string bytes) => bytes.length + 1
  | .lit _ => 1
  | .nil => 1
  | .ptr d => uptoBulk d + 1
  | .slice elems spare => uptoBulkAll elems + uptoBulkAll spare + 1
  | .agg parts => uptoBulkAll parts + 1
  | .iface _ d => uptoBulk d + 1
  | .map entries => uptoBulkEntries entries + 1
  | .held _ => 1
def uptoBulkAll {H : Type} : List (DataW H) → Nat
  | [] => 0
  | d :: r => uptoBulk d + uptoBulkAll r
def uptoBulkEntries {H : Type} : List (Lit × DataW H) → Nat
  | [] => 0
  | x :: r => uptoBulkEntry x + uptoBulkEntries r
def uptoBulkEntry {H : Type} : Lit × DataW H → Nat
  | (.string bytes, d) => bytes.length + uptoBulk d + 1
  | (_, d) => uptoBulk d + 1
 end
def uptoSmall : (H : Type) → List (DataW H) → Bool := fun _ ds => decide (uptoBulkAll ds ≤ 1048576)
def OpenSpec.upto (s : _root_.Go.ChangeSpec) : _root_.Go.OpenSpec := { _root_.Go.OpenSpec.ofChange s with cond := some uptoSmall }

/-- 'laws.FnExactAccentChar', WHERE WHAT IT READS IS OF BULK AT MOST 1048576: true; the input reads as it did. -/
def fnExactAccentCharUptoRow : OpenClaim := { program := "yticblminpeodjaadoor", sum := "13f4b22a9d167f422c13b4c2e5c98648b186a860a129a05750cea31ea7550ab8", func := "loop.example/g00523/laws.FnExactAccentChar", spec := "fnExactAccentChar", named := ["loop.example/g00523/impl.accents"], apart := false, laid := [("loop.example/g00523/impl.accents", laid_loop_example_g00523_impl_accents)], narrowed := true }
def FnExactAccentCharUptoSaid : Prop := fnExactAccentCharUptoRow.holds Tryd.pinned (OpenSpec.upto fnExactAccentCharSpec)

/-- 'laws.FnExactComposeChar', WHERE WHAT IT READS IS OF BULK AT MOST 1048576: true; the input reads as it did. -/
def fnExactComposeCharUptoRow : OpenClaim := { program := "yticblminpeodjaadoor", sum := "13f4b22a9d167f422c13b4c2e5c98648b186a860a129a05750cea31ea7550ab8", func := "loop.example/g00523/laws.FnExactComposeChar", spec := "fnExactComposeChar", recurses := true, named := ["loop.example/g00523/impl.plainLetters", "loop.example/g00523/impl.accented"], apart := false, laid := [("loop.example/g00523/impl.plainLetters", laid_loop_example_g00523_impl_plainLetters), ("loop.example/g00523/impl.accented", laid_loop_example_g00523_impl_accented)], narrowed := true }
def FnExactComposeCharUptoSaid : Prop := fnExactComposeCharUptoRow.holds Tryd.pinned (OpenSpec.upto fnExactComposeCharSpec)

/-- 'laws.FnAccents', WHERE WHAT IT READS IS OF BULK AT MOST 1048576: true; the input reads as it did. -/
def fnAccentsUptoRow : OpenClaim := { program := "yticblminpeodjaadoor", sum := "13f4b22a9d167f422c13b4c2e5c98648b186a860a129a05750cea31ea7550ab8", func := "loop.example/g00523/laws.FnAccents", spec := "fnAccents", recurses := true, named := ["loop.example/g00523/impl.plainLetters", "loop.example/g00523/impl.accented", "loop.example/g00523/impl.accents"], apart := false, laid := [("loop.example/g00523/impl.plainLetters", laid_loop_example_g00523_impl_plainLetters), ("loop.example/g00523/impl.accented", laid_loop_example_g00523_impl_accented), ("loop.example/g00523/impl.accents", laid_loop_example_g00523_impl_accents)], narrowed := true }
def FnAccentsUptoSaid : Prop := fnAccentsUptoRow.holds Tryd.pinned (OpenSpec.upto fnAccentsSpec)

end Rows
end Go.Proofs.YticblminpeodjaaDoor
