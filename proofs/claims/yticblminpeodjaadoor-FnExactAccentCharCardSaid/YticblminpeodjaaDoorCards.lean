/-
  DERIVED. GIVEN WITH THE SEED: THE CARDS: each row of YticblminpeodjaaDoorRows.lean that lists a variable, with what it lists TIED to the program's text (the seventh form; the later family's looks); each row that meets fmt, with fmt's text TOLD by the authors' own Lean function (tested against real Go, not proved from fmt's source: count such statements apart). THE CARD IS WHAT COUNTS. Prove the row's statement (the work); the ties are given (YticblminpeodjaaDoorTie.lean); close each card by the builder's one call (the guide's Derived/Test/ToyasCard.lean, 'card_holds'). Laid BY PROGRAM, IN A SANDBOX (cutbox-door.mjs). By AI agents, Wed Nov 11 2026. No macro, syntax, notation, axiom, sorry.
-/
import Derived.Test.YticblminpeodjaaDoorRows
import GoSem.ClaimSeven
namespace Go.Proofs.YticblminpeodjaaDoor
namespace Rows

/-- THE TIED CARD OF 'laws.FnExactAccentChar'. -/
def fnExactAccentCharCard : Claim7 := { stood := { row := fnExactAccentCharRow, standIns := [], harness := (true, "7a9eff5ab288e51b02b5e3bb4192be3ed51110fe6ea1bcb39d13c2deb8787302"), looks := false }, kinds := [], alts := [], laidByText := true, laidKinds := [.data], laidTests := true, laidLooks := .later }
def FnExactAccentCharCardSaid : Prop := Claim7.holds Tryd.pinned (.plain (OpenSpec.ofChange fnExactAccentCharSpec)) fnExactAccentCharCard

/-- THE TIED CARD OF 'laws.FnExactComposeChar'. -/
def fnExactComposeCharCard : Claim7 := { stood := { row := fnExactComposeCharRow, standIns := [], harness := (true, "7a9eff5ab288e51b02b5e3bb4192be3ed51110fe6ea1bcb39d13c2deb8787302"), looks := false }, kinds := [], alts := [], laidByText := true, laidKinds := [.data, .data], laidTests := true, laidLooks := .later }
def FnExactComposeCharCardSaid : Prop := Claim7.holds Tryd.pinned (.plain (OpenSpec.ofChange fnExactComposeCharSpec)) fnExactComposeCharCard

/-- THE TIED CARD OF 'laws.FnAccents'. -/
def fnAccentsCard : Claim7 := { stood := { row := fnAccentsRow, standIns := [], harness := (true, "7a9eff5ab288e51b02b5e3bb4192be3ed51110fe6ea1bcb39d13c2deb8787302"), looks := false }, kinds := [], alts := [], laidByText := true, laidKinds := [.data, .data, .data], laidTests := true, laidLooks := .later }
def FnAccentsCardSaid : Prop := Claim7.holds Tryd.pinned (.plain (OpenSpec.ofChange fnAccentsSpec)) fnAccentsCard

/-- THE SECOND FORM's CARD OF 'laws.FnExactAccentChar'. -/
def fnExactAccentCharUptoCard : Claim7 := { stood := { row := fnExactAccentCharUptoRow, standIns := [], harness := (true, "7a9eff5ab288e51b02b5e3bb4192be3ed51110fe6ea1bcb39d13c2deb8787302"), looks := false }, kinds := [], alts := [], laidByText := true, laidKinds := [.data], laidTests := true, laidLooks := .later }
def FnExactAccentCharUptoCardSaid : Prop := Claim7.holds Tryd.pinned (.plain (OpenSpec.upto fnExactAccentCharSpec)) fnExactAccentCharUptoCard

/-- THE SECOND FORM's CARD OF 'laws.FnExactComposeChar'. -/
def fnExactComposeCharUptoCard : Claim7 := { stood := { row := fnExactComposeCharUptoRow, standIns := [], harness := (true, "7a9eff5ab288e51b02b5e3bb4192be3ed51110fe6ea1bcb39d13c2deb8787302"), looks := false }, kinds := [], alts := [], laidByText := true, laidKinds := [.data, .data], laidTests := true, laidLooks := .later }
def FnExactComposeCharUptoCardSaid : Prop := Claim7.holds Tryd.pinned (.plain (OpenSpec.upto fnExactComposeCharSpec)) fnExactComposeCharUptoCard

/-- THE SECOND FORM's CARD OF 'laws.FnAccents'. -/
def fnAccentsUptoCard : Claim7 := { stood := { row := fnAccentsUptoRow, standIns := [], harness := (true, "7a9eff5ab288e51b02b5e3bb4192be3ed51110fe6ea1bcb39d13c2deb8787302"), looks := false }, kinds := [], alts := [], laidByText := true, laidKinds := [.data, .data, .data], laidTests := true, laidLooks := .later }
def FnAccentsUptoCardSaid : Prop := Claim7.holds Tryd.pinned (.plain (OpenSpec.upto fnAccentsSpec)) fnAccentsUptoCard
end Rows
end Go.Proofs.YticblminpeodjaaDoor
