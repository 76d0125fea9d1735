/-
  DERIVED. GIVEN WITH THE SEED: THE CARDS: each row of YtpoafgokngpglaaDoorRows.lean that lists a variable, with what it lists TIED to the program's text (the seventh form; the later family's looks); each row that meets fmt, with fmt's text TOLD by the authors' own Lean function (tested against real Go, not proved from fmt's source: count such statements apart). THE CARD IS WHAT COUNTS. Prove the row's statement (the work); the ties are given (YtpoafgokngpglaaDoorTie.lean); close each card by the builder's one call (the guide's Derived/Test/ToyasCard.lean, 'card_holds'). Laid BY PROGRAM, IN A SANDBOX (cutbox-door.mjs). By AI agents, Wed Nov 11 2026. No macro, syntax, notation, axiom, sorry.
-/
import Derived.Test.YtpoafgokngpglaaDoorRows
import GoSem.ClaimSeven
namespace Go.Proofs.YtpoafgokngpglaaDoor
namespace Rows

/-- THE TIED CARD OF 'laws.FnExactComposeChar'. -/
def fnExactComposeCharCard : Claim7 := { stood := { row := fnExactComposeCharRow, standIns := [], harness := (true, "bf4a188177b4a21d4d9d8eac653b9d3ee3851cb2e53e10b43b0ab946b56043a2"), looks := true }, kinds := [], alts := [], laidByText := true, laidKinds := [.data, .data], laidTests := true, laidLooks := .later }
def FnExactComposeCharCardSaid : Prop := Claim7.holds Tryd.pinned (.plain (OpenSpec.ofChange fnExactComposeCharSpec)) fnExactComposeCharCard

/-- THE TIED CARD OF 'laws.FnAccents'. -/
def fnAccentsCard : Claim7 := { stood := { row := fnAccentsRow, standIns := [], harness := (true, "bf4a188177b4a21d4d9d8eac653b9d3ee3851cb2e53e10b43b0ab946b56043a2"), looks := true }, kinds := [], alts := [], laidByText := true, laidKinds := [.data, .data, .data], laidTests := true, laidLooks := .later }
def FnAccentsCardSaid : Prop := Claim7.holds Tryd.pinned (.plain (OpenSpec.ofChange fnAccentsSpec)) fnAccentsCard

/-- THE TIED CARD OF 'laws.FnExactWayText'. -/
def fnExactWayTextCard : Claim7 := { stood := { row := fnExactWayTextRow, standIns := [], harness := (true, "bf4a188177b4a21d4d9d8eac653b9d3ee3851cb2e53e10b43b0ab946b56043a2"), looks := true }, kinds := [], alts := [], laidByText := true, laidKinds := [.data, .data, .data], laidTests := true, laidLooks := .later }
def FnExactWayTextCardSaid : Prop := Claim7.holds Tryd.pinned (.plain (OpenSpec.ofChange fnExactWayTextSpec)) fnExactWayTextCard

/-- THE TIED CARD OF 'laws.FnExactParseWay'. -/
def fnExactParseWayCard : Claim7 := { stood := { row := fnExactParseWayRow, standIns := [], harness := (true, "bf4a188177b4a21d4d9d8eac653b9d3ee3851cb2e53e10b43b0ab946b56043a2"), looks := true }, kinds := [], alts := [], laidByText := true, laidKinds := [.data, .data, .data, .data, .sentinel, .sentinel, .pinned], laidTests := true, laidLooks := .later }
def FnExactParseWayCardSaid : Prop := Claim7.holds Tryd.pinned (.plain (OpenSpec.ofChange fnExactParseWaySpec)) fnExactParseWayCard

/-- THE TIED CARD OF 'laws.FnWays'. -/
def fnWaysCard : Claim7 := { stood := { row := fnWaysRow, standIns := [], harness := (true, "bf4a188177b4a21d4d9d8eac653b9d3ee3851cb2e53e10b43b0ab946b56043a2"), looks := true }, kinds := [], alts := [], laidByText := true, laidKinds := [.data, .data, .data, .data, .sentinel, .sentinel, .pinned], laidTests := true, laidLooks := .later }
def FnWaysCardSaid : Prop := Claim7.holds Tryd.pinned (.plain (OpenSpec.ofChange fnWaysSpec)) fnWaysCard

/-- THE TIED CARD OF 'laws.FnExactActionText'. -/
def fnExactActionTextCard : Claim7 := { stood := { row := fnExactActionTextRow, standIns := [], harness := (true, "bf4a188177b4a21d4d9d8eac653b9d3ee3851cb2e53e10b43b0ab946b56043a2"), looks := true }, kinds := [], alts := [], laidByText := true, laidKinds := [.data, .data, .data], laidTests := true, laidLooks := .later }
def FnExactActionTextCardSaid : Prop := Claim7.holds Tryd.pinned (.plain (OpenSpec.ofChange fnExactActionTextSpec)) fnExactActionTextCard

/-- THE TIED CARD OF 'laws.FnExactAttrBytes'. -/
def fnExactAttrBytesCard : Claim7 := { stood := { row := fnExactAttrBytesRow, standIns := [], harness := (true, "bf4a188177b4a21d4d9d8eac653b9d3ee3851cb2e53e10b43b0ab946b56043a2"), looks := true }, kinds := [], alts := [], laidByText := true, laidKinds := [.data, .data, .data], laidTests := true, laidLooks := .later }
def FnExactAttrBytesCardSaid : Prop := Claim7.holds Tryd.pinned (.plain (OpenSpec.ofChange fnExactAttrBytesSpec)) fnExactAttrBytesCard

/-- THE SECOND FORM's CARD OF 'laws.FnExactComposeChar'. -/
def fnExactComposeCharUptoCard : Claim7 := { stood := { row := fnExactComposeCharUptoRow, standIns := [], harness := (true, "bf4a188177b4a21d4d9d8eac653b9d3ee3851cb2e53e10b43b0ab946b56043a2"), looks := true }, kinds := [], alts := [], laidByText := true, laidKinds := [.data, .data], laidTests := true, laidLooks := .later }
def FnExactComposeCharUptoCardSaid : Prop := Claim7.holds Tryd.pinned (.plain (OpenSpec.upto fnExactComposeCharSpec)) fnExactComposeCharUptoCard

/-- THE SECOND FORM's CARD OF 'laws.FnAccents'. -/
def fnAccentsUptoCard : Claim7 := { stood := { row := fnAccentsUptoRow, standIns := [], harness := (true, "bf4a188177b4a21d4d9d8eac653b9d3ee3851cb2e53e10b43b0ab946b56043a2"), looks := true }, kinds := [], alts := [], laidByText := true, laidKinds := [.data, .data, .data], laidTests := true, laidLooks := .later }
def FnAccentsUptoCardSaid : Prop := Claim7.holds Tryd.pinned (.plain (OpenSpec.upto fnAccentsSpec)) fnAccentsUptoCard

/-- THE SECOND FORM's CARD OF 'laws.FnExactWayText'. -/
def fnExactWayTextUptoCard : Claim7 := { stood := { row := fnExactWayTextUptoRow, standIns := [], harness := (true, "bf4a188177b4a21d4d9d8eac653b9d3ee3851cb2e53e10b43b0ab946b56043a2"), looks := true }, kinds := [], alts := [], laidByText := true, laidKinds := [.data, .data, .data], laidTests := true, laidLooks := .later }
def FnExactWayTextUptoCardSaid : Prop := Claim7.holds Tryd.pinned (.plain (OpenSpec.upto fnExactWayTextSpec)) fnExactWayTextUptoCard

/-- THE SECOND FORM's CARD OF 'laws.FnExactParseWay'. -/
def fnExactParseWayUptoCard : Claim7 := { stood := { row := fnExactParseWayUptoRow, standIns := [], harness := (true, "bf4a188177b4a21d4d9d8eac653b9d3ee3851cb2e53e10b43b0ab946b56043a2"), looks := true }, kinds := [], alts := [], laidByText := true, laidKinds := [.data, .data, .data, .data, .sentinel, .sentinel, .pinned], laidTests := true, laidLooks := .later }
def FnExactParseWayUptoCardSaid : Prop := Claim7.holds Tryd.pinned (.plain (OpenSpec.upto fnExactParseWaySpec)) fnExactParseWayUptoCard

/-- THE SECOND FORM's CARD OF 'laws.FnWays'. -/
def fnWaysUptoCard : Claim7 := { stood := { row := fnWaysUptoRow, standIns := [], harness := (true, "bf4a188177b4a21d4d9d8eac653b9d3ee3851cb2e53e10b43b0ab946b56043a2"), looks := true }, kinds := [], alts := [], laidByText := true, laidKinds := [.data, .data, .data, .data, .sentinel, .sentinel, .pinned], laidTests := true, laidLooks := .later }
def FnWaysUptoCardSaid : Prop := Claim7.holds Tryd.pinned (.plain (OpenSpec.upto fnWaysSpec)) fnWaysUptoCard

/-- THE SECOND FORM's CARD OF 'laws.FnExactActionText'. -/
def fnExactActionTextUptoCard : Claim7 := { stood := { row := fnExactActionTextUptoRow, standIns := [], harness := (true, "bf4a188177b4a21d4d9d8eac653b9d3ee3851cb2e53e10b43b0ab946b56043a2"), looks := true }, kinds := [], alts := [], laidByText := true, laidKinds := [.data, .data, .data], laidTests := true, laidLooks := .later }
def FnExactActionTextUptoCardSaid : Prop := Claim7.holds Tryd.pinned (.plain (OpenSpec.upto fnExactActionTextSpec)) fnExactActionTextUptoCard

/-- THE SECOND FORM's CARD OF 'laws.FnExactAttrBytes'. -/
def fnExactAttrBytesUptoCard : Claim7 := { stood := { row := fnExactAttrBytesUptoRow, standIns := [], harness := (true, "bf4a188177b4a21d4d9d8eac653b9d3ee3851cb2e53e10b43b0ab946b56043a2"), looks := true }, kinds := [], alts := [], laidByText := true, laidKinds := [.data, .data, .data], laidTests := true, laidLooks := .later }
def FnExactAttrBytesUptoCardSaid : Prop := Claim7.holds Tryd.pinned (.plain (OpenSpec.upto fnExactAttrBytesSpec)) fnExactAttrBytesUptoCard
end Rows
end Go.Proofs.YtpoafgokngpglaaDoor
