/-
  No cell of these rows narrows 'for every input' (looked for: loops, veiled, ifaces, maps, wideKeys, modest, calm, conditions, laid).
  DERIVED. THE GIVEN ROWS OF THIS SEAT. 12 by the template 'for every input the law returns true; each argument reads behind the call as it read before'; 0 by the template 'total and deterministic' (their statements: YtomcgieedcbpbaaTotals.lean).
  GIVEN WITH THE SEED: the statements are not yours to turn. If you find one false, say at which input.
  Laid BY PROGRAM, IN A SANDBOX (cutbox-rows.mjs): the forced cells as the released guide's own fill.sh prints them over the translation 39c2b775d118ee65… (all of the seat's roots in one cut). By AI agents, Wed Nov 11 2026. No macro, syntax, notation, axiom, sorry.
-/
import Derived.Test.YtomcgieedcbpbaaChecked
import GoSem.Claim
import GoSem.ClaimJoined
import GoSem.ClaimMapViews
import Derived.JoinedTies
import Derived.KernelRfl
namespace Go.Proofs.Ytomcgieedcbpbaa
/- THE CELL 'sum', in the pinned program and in every row, IS THE sha256 OF THE DUMP (.gsa) THAT YtomcgieedcbpbaaProg.lean LOADS. Nothing in Lean hashes anything: it is a label: what it is worth is what the hold of that sum in a sandbox is worth. -/
noncomputable def Try.pinned : Pinned := { name := "ytomcgieedcbpbaa", sum := "39c2b775d118ee652906b8d5b812a0bfd471176e7241c5aa4430f0c9507c924e", checked := Try.checked }
namespace Rows
def none {H : Type} : Left H := { results := [], args := [] }

/-- 'laws.FnExactDecoderFault': WHATEVER THE INPUT: true; the input reads as it did. -/
def fnExactDecoderFaultSpec : ChangeSpec := { name := "fnExactDecoderFault", fn := fun _ => fun
  | [d] => { results := [.lit (.bool true)], args := [d] }
  | _ => none }
def fnExactDecoderFaultRow : OpenClaim := { program := "ytomcgieedcbpbaa", sum := "39c2b775d118ee652906b8d5b812a0bfd471176e7241c5aa4430f0c9507c924e", func := "loop.example/g00523/laws.FnExactDecoderFault", spec := "fnExactDecoderFault", apart := false }
def FnExactDecoderFaultSaid : Prop := fnExactDecoderFaultRow.holds Try.pinned (OpenSpec.ofChange fnExactDecoderFaultSpec)

/-- ITS FALSE NEIGHBOUR: 'it returns false'. Refute it at one input. -/
def fnExactDecoderFaultWrong : ChangeSpec := { name := "fnExactDecoderFault", fn := fun _ => fun
  | [d] => { results := [.lit (.bool false)], args := [d] }
  | _ => none }
def FnExactDecoderFaultWrongFalsely : Prop := fnExactDecoderFaultRow.holds Try.pinned (OpenSpec.ofChange fnExactDecoderFaultWrong)

/-- 'laws.FnExactEncodeChar': WHATEVER THE INPUT: true; the input reads as it did. -/
def fnExactEncodeCharSpec : ChangeSpec := { name := "fnExactEncodeChar", fn := fun _ => fun
  | [d] => { results := [.lit (.bool true)], args := [d] }
  | _ => none }
def fnExactEncodeCharRow : OpenClaim := { program := "ytomcgieedcbpbaa", sum := "39c2b775d118ee652906b8d5b812a0bfd471176e7241c5aa4430f0c9507c924e", func := "loop.example/g00523/laws.FnExactEncodeChar", spec := "fnExactEncodeChar", apart := false }
def FnExactEncodeCharSaid : Prop := fnExactEncodeCharRow.holds Try.pinned (OpenSpec.ofChange fnExactEncodeCharSpec)

/-- ITS FALSE NEIGHBOUR: 'it returns false'. Refute it at one input. -/
def fnExactEncodeCharWrong : ChangeSpec := { name := "fnExactEncodeChar", fn := fun _ => fun
  | [d] => { results := [.lit (.bool false)], args := [d] }
  | _ => none }
def FnExactEncodeCharWrongFalsely : Prop := fnExactEncodeCharRow.holds Try.pinned (OpenSpec.ofChange fnExactEncodeCharWrong)

/-- 'laws.FnExactEndDecoder': WHATEVER THE INPUT: true; the input reads as it did. -/
def fnExactEndDecoderSpec : ChangeSpec := { name := "fnExactEndDecoder", fn := fun _ => fun
  | [d] => { results := [.lit (.bool true)], args := [d] }
  | _ => none }
def fnExactEndDecoderRow : OpenClaim := { program := "ytomcgieedcbpbaa", sum := "39c2b775d118ee652906b8d5b812a0bfd471176e7241c5aa4430f0c9507c924e", func := "loop.example/g00523/laws.FnExactEndDecoder", spec := "fnExactEndDecoder", apart := false }
def FnExactEndDecoderSaid : Prop := fnExactEndDecoderRow.holds Try.pinned (OpenSpec.ofChange fnExactEndDecoderSpec)

/-- ITS FALSE NEIGHBOUR: 'it returns false'. Refute it at one input. -/
def fnExactEndDecoderWrong : ChangeSpec := { name := "fnExactEndDecoder", fn := fun _ => fun
  | [d] => { results := [.lit (.bool false)], args := [d] }
  | _ => none }
def FnExactEndDecoderWrongFalsely : Prop := fnExactEndDecoderRow.holds Try.pinned (OpenSpec.ofChange fnExactEndDecoderWrong)

/-- 'laws.FnExactEncodeAll': WHATEVER THE INPUT: true; the input reads as it did. -/
def fnExactEncodeAllSpec : ChangeSpec := { name := "fnExactEncodeAll", fn := fun _ => fun
  | [d] => { results := [.lit (.bool true)], args := [d] }
  | _ => none }
def fnExactEncodeAllRow : OpenClaim := { program := "ytomcgieedcbpbaa", sum := "39c2b775d118ee652906b8d5b812a0bfd471176e7241c5aa4430f0c9507c924e", func := "loop.example/g00523/laws.FnExactEncodeAll", spec := "fnExactEncodeAll", apart := false }
def FnExactEncodeAllSaid : Prop := fnExactEncodeAllRow.holds Try.pinned (OpenSpec.ofChange fnExactEncodeAllSpec)

/-- ITS FALSE NEIGHBOUR: 'it returns false'. Refute it at one input. -/
def fnExactEncodeAllWrong : ChangeSpec := { name := "fnExactEncodeAll", fn := fun _ => fun
  | [d] => { results := [.lit (.bool false)], args := [d] }
  | _ => none }
def FnExactEncodeAllWrongFalsely : Prop := fnExactEncodeAllRow.holds Try.pinned (OpenSpec.ofChange fnExactEncodeAllWrong)

/-- 'laws.FnExactTranslateChar': WHATEVER THE INPUT: true; the input reads as it did. -/
def fnExactTranslateCharSpec : ChangeSpec := { name := "fnExactTranslateChar", fn := fun _ => fun
  | [d1, d2] => { results := [.lit (.bool true)], args := [d1, d2] }
  | _ => none }
def fnExactTranslateCharRow : OpenClaim := { program := "ytomcgieedcbpbaa", sum := "39c2b775d118ee652906b8d5b812a0bfd471176e7241c5aa4430f0c9507c924e", func := "loop.example/g00523/laws.FnExactTranslateChar", spec := "fnExactTranslateChar", apart := false }
def FnExactTranslateCharSaid : Prop := fnExactTranslateCharRow.holds Try.pinned (OpenSpec.ofChange fnExactTranslateCharSpec)

/-- ITS FALSE NEIGHBOUR: 'it returns false'. Refute it at one input. -/
def fnExactTranslateCharWrong : ChangeSpec := { name := "fnExactTranslateChar", fn := fun _ => fun
  | [d1, d2] => { results := [.lit (.bool false)], args := [d1, d2] }
  | _ => none }
def FnExactTranslateCharWrongFalsely : Prop := fnExactTranslateCharRow.holds Try.pinned (OpenSpec.ofChange fnExactTranslateCharWrong)

/-- 'laws.FnExactFontFault': WHATEVER THE INPUT: true; the input reads as it did. -/
def fnExactFontFaultSpec : ChangeSpec := { name := "fnExactFontFault", fn := fun _ => fun
  | [d] => { results := [.lit (.bool true)], args := [d] }
  | _ => none }
def fnExactFontFaultRow : OpenClaim := { program := "ytomcgieedcbpbaa", sum := "39c2b775d118ee652906b8d5b812a0bfd471176e7241c5aa4430f0c9507c924e", func := "loop.example/g00523/laws.FnExactFontFault", spec := "fnExactFontFault", apart := false }
def FnExactFontFaultSaid : Prop := fnExactFontFaultRow.holds Try.pinned (OpenSpec.ofChange fnExactFontFaultSpec)

/-- ITS FALSE NEIGHBOUR: 'it returns false'. Refute it at one input. -/
def fnExactFontFaultWrong : ChangeSpec := { name := "fnExactFontFault", fn := fun _ => fun
  | [d] => { results := [.lit (.bool false)], args := [d] }
  | _ => none }
def FnExactFontFaultWrongFalsely : Prop := fnExactFontFaultRow.holds Try.pinned (OpenSpec.ofChange fnExactFontFaultWrong)

/-- 'laws.FnExactGlyphOf': WHATEVER THE INPUT: true; the input reads as it did. -/
def fnExactGlyphOfSpec : ChangeSpec := { name := "fnExactGlyphOf", fn := fun _ => fun
  | [d1, d2] => { results := [.lit (.bool true)], args := [d1, d2] }
  | _ => none }
def fnExactGlyphOfRow : OpenClaim := { program := "ytomcgieedcbpbaa", sum := "39c2b775d118ee652906b8d5b812a0bfd471176e7241c5aa4430f0c9507c924e", func := "loop.example/g00523/laws.FnExactGlyphOf", spec := "fnExactGlyphOf", unfollowed := true, recurses := true, apart := false }
def FnExactGlyphOfSaid : Prop := fnExactGlyphOfRow.holds Try.pinned (OpenSpec.ofChange fnExactGlyphOfSpec)

/-- ITS FALSE NEIGHBOUR: 'it returns false'. Refute it at one input. -/
def fnExactGlyphOfWrong : ChangeSpec := { name := "fnExactGlyphOf", fn := fun _ => fun
  | [d1, d2] => { results := [.lit (.bool false)], args := [d1, d2] }
  | _ => none }
def FnExactGlyphOfWrongFalsely : Prop := fnExactGlyphOfRow.holds Try.pinned (OpenSpec.ofChange fnExactGlyphOfWrong)

/-- 'laws.FnExactCharsOf': WHATEVER THE INPUT: true; the input reads as it did. -/
def fnExactCharsOfSpec : ChangeSpec := { name := "fnExactCharsOf", fn := fun _ => fun
  | [d1, d2] => { results := [.lit (.bool true)], args := [d1, d2] }
  | _ => none }
def fnExactCharsOfRow : OpenClaim := { program := "ytomcgieedcbpbaa", sum := "39c2b775d118ee652906b8d5b812a0bfd471176e7241c5aa4430f0c9507c924e", func := "loop.example/g00523/laws.FnExactCharsOf", spec := "fnExactCharsOf", apart := false }
def FnExactCharsOfSaid : Prop := fnExactCharsOfRow.holds Try.pinned (OpenSpec.ofChange fnExactCharsOfSpec)

/-- ITS FALSE NEIGHBOUR: 'it returns false'. Refute it at one input. -/
def fnExactCharsOfWrong : ChangeSpec := { name := "fnExactCharsOf", fn := fun _ => fun
  | [d1, d2] => { results := [.lit (.bool false)], args := [d1, d2] }
  | _ => none }
def FnExactCharsOfWrongFalsely : Prop := fnExactCharsOfRow.holds Try.pinned (OpenSpec.ofChange fnExactCharsOfWrong)

/-- 'laws.FnExactDropPair': WHATEVER THE INPUT: true; the input reads as it did. -/
def fnExactDropPairSpec : ChangeSpec := { name := "fnExactDropPair", fn := fun _ => fun
  | [d1, d2] => { results := [.lit (.bool true)], args := [d1, d2] }
  | _ => none }
def fnExactDropPairRow : OpenClaim := { program := "ytomcgieedcbpbaa", sum := "39c2b775d118ee652906b8d5b812a0bfd471176e7241c5aa4430f0c9507c924e", func := "loop.example/g00523/laws.FnExactDropPair", spec := "fnExactDropPair", unfollowed := true, recurses := true, apart := false }
def FnExactDropPairSaid : Prop := fnExactDropPairRow.holds Try.pinned (OpenSpec.ofChange fnExactDropPairSpec)

/-- ITS FALSE NEIGHBOUR: 'it returns false'. Refute it at one input. -/
def fnExactDropPairWrong : ChangeSpec := { name := "fnExactDropPair", fn := fun _ => fun
  | [d1, d2] => { results := [.lit (.bool false)], args := [d1, d2] }
  | _ => none }
def FnExactDropPairWrongFalsely : Prop := fnExactDropPairRow.holds Try.pinned (OpenSpec.ofChange fnExactDropPairWrong)

/-- 'laws.FnExactPutPair': WHATEVER THE INPUT: true; the input reads as it did. -/
def fnExactPutPairSpec : ChangeSpec := { name := "fnExactPutPair", fn := fun _ => fun
  | [d1, d2] => { results := [.lit (.bool true)], args := [d1, d2] }
  | _ => none }
def fnExactPutPairRow : OpenClaim := { program := "ytomcgieedcbpbaa", sum := "39c2b775d118ee652906b8d5b812a0bfd471176e7241c5aa4430f0c9507c924e", func := "loop.example/g00523/laws.FnExactPutPair", spec := "fnExactPutPair", inPlace := ["slices.overlaps[loop.example/g00523/impl.Pair]"], unfollowed := true, recurses := true, apart := false }
def FnExactPutPairSaid : Prop := fnExactPutPairRow.holds Try.pinned (OpenSpec.ofChange fnExactPutPairSpec)

/-- ITS FALSE NEIGHBOUR: 'it returns false'. Refute it at one input. -/
def fnExactPutPairWrong : ChangeSpec := { name := "fnExactPutPair", fn := fun _ => fun
  | [d1, d2] => { results := [.lit (.bool false)], args := [d1, d2] }
  | _ => none }
def FnExactPutPairWrongFalsely : Prop := fnExactPutPairRow.holds Try.pinned (OpenSpec.ofChange fnExactPutPairWrong)

/-- 'laws.FnGlyphs': WHATEVER THE INPUT: true; the input reads as it did. -/
def fnGlyphsSpec : ChangeSpec := { name := "fnGlyphs", fn := fun _ => fun
  | [d] => { results := [.lit (.bool true)], args := [d] }
  | _ => none }
def fnGlyphsRow : OpenClaim := { program := "ytomcgieedcbpbaa", sum := "39c2b775d118ee652906b8d5b812a0bfd471176e7241c5aa4430f0c9507c924e", func := "loop.example/g00523/laws.FnGlyphs", spec := "fnGlyphs", unfollowed := true, recurses := true, apart := false }
def FnGlyphsSaid : Prop := fnGlyphsRow.holds Try.pinned (OpenSpec.ofChange fnGlyphsSpec)

/-- ITS FALSE NEIGHBOUR: 'it returns false'. Refute it at one input. -/
def fnGlyphsWrong : ChangeSpec := { name := "fnGlyphs", fn := fun _ => fun
  | [d] => { results := [.lit (.bool false)], args := [d] }
  | _ => none }
def FnGlyphsWrongFalsely : Prop := fnGlyphsRow.holds Try.pinned (OpenSpec.ofChange fnGlyphsWrong)

/-- 'laws.FnFonts': WHATEVER THE INPUT: true; the input reads as it did. -/
def fnFontsSpec : ChangeSpec := { name := "fnFonts", fn := fun _ => fun
  | [d] => { results := [.lit (.bool true)], args := [d] }
  | _ => none }
def fnFontsRow : OpenClaim := { program := "ytomcgieedcbpbaa", sum := "39c2b775d118ee652906b8d5b812a0bfd471176e7241c5aa4430f0c9507c924e", func := "loop.example/g00523/laws.FnFonts", spec := "fnFonts", inPlace := ["slices.overlaps[loop.example/g00523/impl.Pair]"], unfollowed := true, recurses := true, apart := false }
def FnFontsSaid : Prop := fnFontsRow.holds Try.pinned (OpenSpec.ofChange fnFontsSpec)

/-- ITS FALSE NEIGHBOUR: 'it returns false'. Refute it at one input. -/
def fnFontsWrong : ChangeSpec := { name := "fnFonts", fn := fun _ => fun
  | [d] => { results := [.lit (.bool false)], args := [d] }
  | _ => none }
def FnFontsWrongFalsely : Prop := fnFontsRow.holds Try.pinned (OpenSpec.ofChange fnFontsWrong)

/- THE SECOND FORM. 'bulk': how many values and letters a reading holds, each counted each time it is reached (what is shared counts as often as it is met; a slice's spare places count too). A statement '..UptoSaid' is the law's where the arguments, and the package variables that the reading takes, are together of bulk at most 1048576: NARROWER than '..Said'. Prove '..Said' where nothing that the law and all that it calls make is longer than what came in: it says more and counts as full. Else prove '..UptoSaid'. A law counts once. -/
mutual
def uptoBulk {H : Type} : DataW H → Nat
  | .lit (.string bytes) => bytes.length + 1
  | .lit _ => 1
  | .nil => 1
  | .ptr d => uptoBulk d + 1
  | .slice elems spare => uptoBulkAll elems + uptoBulkAll spare + 1
  | .agg parts => uptoBulkAll parts + 1
  | .iface _ d => uptoBulk d + 1
  | .map entries => uptoBulkEntries entries + 1
  | .held _ => 1
def uptoBulkAll {H : Type} : List (DataW H) → Nat
  | [] => 0
  | d :: r => uptoBulk d + uptoBulkAll r
def uptoBulkEntries {H : Type} : List (Lit × DataW H) → Nat
  | [] => 0
  | x :: r => uptoBulkEntry x + uptoBulkEntries r
def uptoBulkEntry {H : Type} : Lit × DataW H → Nat
  | (.string bytes, d) => bytes.length + uptoBulk d + 1
  | (_, d) => uptoBulk d + 1
 end
def uptoSmall : (H : Type) → List (DataW H) → Bool := fun _ ds => decide (uptoBulkAll ds ≤ 1048576)
def OpenSpec.upto (s : _root_.Go.ChangeSpec) : _root_.Go.OpenSpec := { _root_.Go.OpenSpec.ofChange s with cond := some uptoSmall }

/-- 'laws.FnExactDecoderFault', WHERE WHAT IT READS IS OF BULK AT MOST 1048576: true; the input reads as it did. -/
def fnExactDecoderFaultUptoRow : OpenClaim := { program := "ytomcgieedcbpbaa", sum := "39c2b775d118ee652906b8d5b812a0bfd471176e7241c5aa4430f0c9507c924e", func := "loop.example/g00523/laws.FnExactDecoderFault", spec := "fnExactDecoderFault", apart := false, narrowed := true }
def FnExactDecoderFaultUptoSaid : Prop := fnExactDecoderFaultUptoRow.holds Try.pinned (OpenSpec.upto fnExactDecoderFaultSpec)

/-- 'laws.FnExactEncodeChar', WHERE WHAT IT READS IS OF BULK AT MOST 1048576: true; the input reads as it did. -/
def fnExactEncodeCharUptoRow : OpenClaim := { program := "ytomcgieedcbpbaa", sum := "39c2b775d118ee652906b8d5b812a0bfd471176e7241c5aa4430f0c9507c924e", func := "loop.example/g00523/laws.FnExactEncodeChar", spec := "fnExactEncodeChar", apart := false, narrowed := true }
def FnExactEncodeCharUptoSaid : Prop := fnExactEncodeCharUptoRow.holds Try.pinned (OpenSpec.upto fnExactEncodeCharSpec)

/-- 'laws.FnExactEndDecoder', WHERE WHAT IT READS IS OF BULK AT MOST 1048576: true; the input reads as it did. -/
def fnExactEndDecoderUptoRow : OpenClaim := { program := "ytomcgieedcbpbaa", sum := "39c2b775d118ee652906b8d5b812a0bfd471176e7241c5aa4430f0c9507c924e", func := "loop.example/g00523/laws.FnExactEndDecoder", spec := "fnExactEndDecoder", apart := false, narrowed := true }
def FnExactEndDecoderUptoSaid : Prop := fnExactEndDecoderUptoRow.holds Try.pinned (OpenSpec.upto fnExactEndDecoderSpec)

/-- 'laws.FnExactEncodeAll', WHERE WHAT IT READS IS OF BULK AT MOST 1048576: true; the input reads as it did. -/
def fnExactEncodeAllUptoRow : OpenClaim := { program := "ytomcgieedcbpbaa", sum := "39c2b775d118ee652906b8d5b812a0bfd471176e7241c5aa4430f0c9507c924e", func := "loop.example/g00523/laws.FnExactEncodeAll", spec := "fnExactEncodeAll", apart := false, narrowed := true }
def FnExactEncodeAllUptoSaid : Prop := fnExactEncodeAllUptoRow.holds Try.pinned (OpenSpec.upto fnExactEncodeAllSpec)

/-- 'laws.FnExactTranslateChar', WHERE WHAT IT READS IS OF BULK AT MOST 1048576: true; the input reads as it did. -/
def fnExactTranslateCharUptoRow : OpenClaim := { program := "ytomcgieedcbpbaa", sum := "39c2b775d118ee652906b8d5b812a0bfd471176e7241c5aa4430f0c9507c924e", func := "loop.example/g00523/laws.FnExactTranslateChar", spec := "fnExactTranslateChar", apart := false, narrowed := true }
def FnExactTranslateCharUptoSaid : Prop := fnExactTranslateCharUptoRow.holds Try.pinned (OpenSpec.upto fnExactTranslateCharSpec)

/-- 'laws.FnExactFontFault', WHERE WHAT IT READS IS OF BULK AT MOST 1048576: true; the input reads as it did. -/
def fnExactFontFaultUptoRow : OpenClaim := { program := "ytomcgieedcbpbaa", sum := "39c2b775d118ee652906b8d5b812a0bfd471176e7241c5aa4430f0c9507c924e", func := "loop.example/g00523/laws.FnExactFontFault", spec := "fnExactFontFault", apart := false, narrowed := true }
def FnExactFontFaultUptoSaid : Prop := fnExactFontFaultUptoRow.holds Try.pinned (OpenSpec.upto fnExactFontFaultSpec)

/-- 'laws.FnExactGlyphOf', WHERE WHAT IT READS IS OF BULK AT MOST 1048576: true; the input reads as it did. -/
def fnExactGlyphOfUptoRow : OpenClaim := { program := "ytomcgieedcbpbaa", sum := "39c2b775d118ee652906b8d5b812a0bfd471176e7241c5aa4430f0c9507c924e", func := "loop.example/g00523/laws.FnExactGlyphOf", spec := "fnExactGlyphOf", unfollowed := true, recurses := true, apart := false, narrowed := true }
def FnExactGlyphOfUptoSaid : Prop := fnExactGlyphOfUptoRow.holds Try.pinned (OpenSpec.upto fnExactGlyphOfSpec)

/-- 'laws.FnExactCharsOf', WHERE WHAT IT READS IS OF BULK AT MOST 1048576: true; the input reads as it did. -/
def fnExactCharsOfUptoRow : OpenClaim := { program := "ytomcgieedcbpbaa", sum := "39c2b775d118ee652906b8d5b812a0bfd471176e7241c5aa4430f0c9507c924e", func := "loop.example/g00523/laws.FnExactCharsOf", spec := "fnExactCharsOf", apart := false, narrowed := true }
def FnExactCharsOfUptoSaid : Prop := fnExactCharsOfUptoRow.holds Try.pinned (OpenSpec.upto fnExactCharsOfSpec)

/-- 'laws.FnExactDropPair', WHERE WHAT IT READS IS OF BULK AT MOST 1048576: true; the input reads as it did. -/
def fnExactDropPairUptoRow : OpenClaim := { program := "ytomcgieedcbpbaa", sum := "39c2b775d118ee652906b8d5b812a0bfd471176e7241c5aa4430f0c9507c924e", func := "loop.example/g00523/laws.FnExactDropPair", spec := "fnExactDropPair", unfollowed := true, recurses := true, apart := false, narrowed := true }
def FnExactDropPairUptoSaid : Prop := fnExactDropPairUptoRow.holds Try.pinned (OpenSpec.upto fnExactDropPairSpec)

/-- 'laws.FnExactPutPair', WHERE WHAT IT READS IS OF BULK AT MOST 1048576: true; the input reads as it did. -/
def fnExactPutPairUptoRow : OpenClaim := { program := "ytomcgieedcbpbaa", sum := "39c2b775d118ee652906b8d5b812a0bfd471176e7241c5aa4430f0c9507c924e", func := "loop.example/g00523/laws.FnExactPutPair", spec := "fnExactPutPair", inPlace := ["slices.overlaps[loop.example/g00523/impl.Pair]"], unfollowed := true, recurses := true, apart := false, narrowed := true }
def FnExactPutPairUptoSaid : Prop := fnExactPutPairUptoRow.holds Try.pinned (OpenSpec.upto fnExactPutPairSpec)

/-- 'laws.FnGlyphs', WHERE WHAT IT READS IS OF BULK AT MOST 1048576: true; the input reads as it did. -/
def fnGlyphsUptoRow : OpenClaim := { program := "ytomcgieedcbpbaa", sum := "39c2b775d118ee652906b8d5b812a0bfd471176e7241c5aa4430f0c9507c924e", func := "loop.example/g00523/laws.FnGlyphs", spec := "fnGlyphs", unfollowed := true, recurses := true, apart := false, narrowed := true }
def FnGlyphsUptoSaid : Prop := fnGlyphsUptoRow.holds Try.pinned (OpenSpec.upto fnGlyphsSpec)

/-- 'laws.FnFonts', WHERE WHAT IT READS IS OF BULK AT MOST 1048576: true; the input reads as it did. -/
def fnFontsUptoRow : OpenClaim := { program := "ytomcgieedcbpbaa", sum := "39c2b775d118ee652906b8d5b812a0bfd471176e7241c5aa4430f0c9507c924e", func := "loop.example/g00523/laws.FnFonts", spec := "fnFonts", inPlace := ["slices.overlaps[loop.example/g00523/impl.Pair]"], unfollowed := true, recurses := true, apart := false, narrowed := true }
def FnFontsUptoSaid : Prop := fnFontsUptoRow.holds Try.pinned (OpenSpec.upto fnFontsSpec)

end Rows
end Go.Proofs.Ytomcgieedcbpbaa
