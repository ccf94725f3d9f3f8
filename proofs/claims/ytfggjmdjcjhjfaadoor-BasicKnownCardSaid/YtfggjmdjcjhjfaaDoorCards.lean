/-
  DERIVED. GIVEN WITH THE SEED: THE CARDS: each row of YtfggjmdjcjhjfaaDoorRows.lean that lists a variable, with what it lists TIED to the program's text (the seventh form; the later family's looks); each row that meets fmt, with fmt's text TOLD by the authors' own Lean function (tested against real Go, not proved from fmt's source: count such statements apart). THE CARD IS WHAT COUNTS. Prove the row's statement (the work); the ties are given (YtfggjmdjcjhjfaaDoorTie.lean); close each card by the builder's one call (the guide's Derived/Test/ToyasCard.lean, 'card_holds'). Laid BY PROGRAM, IN A SANDBOX (cutbox-door.mjs). By AI agents, Wed Nov 11 2026. No macro, syntax, notation, axiom, sorry.
-/
import Derived.Test.YtfggjmdjcjhjfaaDoorRows
import GoSem.ClaimSeven
namespace Go.Proofs.YtfggjmdjcjhjfaaDoor
namespace Rows

/-- THE TIED CARD OF 'partylinelaw04.BasicEncodes'. -/
def basicEncodesCard : Claim7 := { stood := { row := basicEncodesRow, standIns := [], harness := (true, "c92a92df6a42b9f36f5796c7ec60aa8f29bc93a4dddb1ce4e6d0048eab89bcdd"), looks := false }, kinds := [], alts := [], laidByText := true, laidKinds := [.data, .data], laidTests := true, laidLooks := .later }
def BasicEncodesCardSaid : Prop := Claim7.holds Tryd.pinned (.plain (OpenSpec.ofChange basicEncodesSpec)) basicEncodesCard

/-- THE TIED CARD OF 'partylinelaw04.BasicDecodes'. -/
def basicDecodesCard : Claim7 := { stood := { row := basicDecodesRow, standIns := [], harness := (true, "c92a92df6a42b9f36f5796c7ec60aa8f29bc93a4dddb1ce4e6d0048eab89bcdd"), looks := false }, kinds := [], alts := [], laidByText := true, laidKinds := [.data, .data], laidTests := true, laidLooks := .later }
def BasicDecodesCardSaid : Prop := Claim7.holds Tryd.pinned (.plain (OpenSpec.ofChange basicDecodesSpec)) basicDecodesCard

/-- THE TIED CARD OF 'partylinelaw04.BasicBack'. -/
def basicBackCard : Claim7 := { stood := { row := basicBackRow, standIns := [], harness := (true, "c92a92df6a42b9f36f5796c7ec60aa8f29bc93a4dddb1ce4e6d0048eab89bcdd"), looks := false }, kinds := [], alts := [], laidByText := true, laidKinds := [.data, .data], laidTests := true, laidLooks := .later }
def BasicBackCardSaid : Prop := Claim7.holds Tryd.pinned (.plain (OpenSpec.ofChange basicBackSpec)) basicBackCard

/-- THE TIED CARD OF 'partylinelaw04.BasicTurned'. -/
def basicTurnedCard : Claim7 := { stood := { row := basicTurnedRow, standIns := [], harness := (true, "c92a92df6a42b9f36f5796c7ec60aa8f29bc93a4dddb1ce4e6d0048eab89bcdd"), looks := false }, kinds := [], alts := [], laidByText := true, laidKinds := [.data, .data], laidTests := true, laidLooks := .later }
def BasicTurnedCardSaid : Prop := Claim7.holds Tryd.pinned (.plain (OpenSpec.ofChange basicTurnedSpec)) basicTurnedCard

/-- THE TIED CARD OF 'partylinelaw04.BasicKnown'. -/
def basicKnownCard : Claim7 := { stood := { row := basicKnownRow, standIns := [], harness := (true, "c92a92df6a42b9f36f5796c7ec60aa8f29bc93a4dddb1ce4e6d0048eab89bcdd"), looks := false }, kinds := [], alts := [], laidByText := true, laidKinds := [.data, .data], laidTests := true, laidLooks := .later }
def BasicKnownCardSaid : Prop := Claim7.holds Tryd.pinned (.plain (OpenSpec.ofChange basicKnownSpec)) basicKnownCard

/-- THE SECOND FORM's CARD OF 'partylinelaw04.BasicEncodes'. -/
def basicEncodesUptoCard : Claim7 := { stood := { row := basicEncodesUptoRow, standIns := [], harness := (true, "c92a92df6a42b9f36f5796c7ec60aa8f29bc93a4dddb1ce4e6d0048eab89bcdd"), looks := false }, kinds := [], alts := [], laidByText := true, laidKinds := [.data, .data], laidTests := true, laidLooks := .later }
def BasicEncodesUptoCardSaid : Prop := Claim7.holds Tryd.pinned (.plain (OpenSpec.upto basicEncodesSpec)) basicEncodesUptoCard

/-- THE SECOND FORM's CARD OF 'partylinelaw04.BasicDecodes'. -/
def basicDecodesUptoCard : Claim7 := { stood := { row := basicDecodesUptoRow, standIns := [], harness := (true, "c92a92df6a42b9f36f5796c7ec60aa8f29bc93a4dddb1ce4e6d0048eab89bcdd"), looks := false }, kinds := [], alts := [], laidByText := true, laidKinds := [.data, .data], laidTests := true, laidLooks := .later }
def BasicDecodesUptoCardSaid : Prop := Claim7.holds Tryd.pinned (.plain (OpenSpec.upto basicDecodesSpec)) basicDecodesUptoCard

/-- THE SECOND FORM's CARD OF 'partylinelaw04.BasicBack'. -/
def basicBackUptoCard : Claim7 := { stood := { row := basicBackUptoRow, standIns := [], harness := (true, "c92a92df6a42b9f36f5796c7ec60aa8f29bc93a4dddb1ce4e6d0048eab89bcdd"), looks := false }, kinds := [], alts := [], laidByText := true, laidKinds := [.data, .data], laidTests := true, laidLooks := .later }
def BasicBackUptoCardSaid : Prop := Claim7.holds Tryd.pinned (.plain (OpenSpec.upto basicBackSpec)) basicBackUptoCard

/-- THE SECOND FORM's CARD OF 'partylinelaw04.BasicTurned'. -/
def basicTurnedUptoCard : Claim7 := { stood := { row := basicTurnedUptoRow, standIns := [], harness := (true, "c92a92df6a42b9f36f5796c7ec60aa8f29bc93a4dddb1ce4e6d0048eab89bcdd"), looks := false }, kinds := [], alts := [], laidByText := true, laidKinds := [.data, .data], laidTests := true, laidLooks := .later }
def BasicTurnedUptoCardSaid : Prop := Claim7.holds Tryd.pinned (.plain (OpenSpec.upto basicTurnedSpec)) basicTurnedUptoCard

/-- THE SECOND FORM's CARD OF 'partylinelaw04.BasicKnown'. -/
def basicKnownUptoCard : Claim7 := { stood := { row := basicKnownUptoRow, standIns := [], harness := (true, "c92a92df6a42b9f36f5796c7ec60aa8f29bc93a4dddb1ce4e6d0048eab89bcdd"), looks := false }, kinds := [], alts := [], laidByText := true, laidKinds := [.data, .data], laidTests := true, laidLooks := .later }
def BasicKnownUptoCardSaid : Prop := Claim7.holds Tryd.pinned (.plain (OpenSpec.upto basicKnownSpec)) basicKnownUptoCard
end Rows
end Go.Proofs.YtfggjmdjcjhjfaaDoor
