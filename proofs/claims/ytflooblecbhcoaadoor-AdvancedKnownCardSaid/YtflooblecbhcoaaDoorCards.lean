/-
  DERIVED. GIVEN WITH THE SEED: THE CARDS: each row of YtflooblecbhcoaaDoorRows.lean that lists a variable, with what it lists TIED to the program's text (the seventh form; the later family's looks); each row that meets fmt, with fmt's text TOLD by the authors' own Lean function (tested against real Go, not proved from fmt's source: count such statements apart). THE CARD IS WHAT COUNTS. Prove the row's statement (the work); the ties are given (YtflooblecbhcoaaDoorTie.lean); close each card by the builder's one call (the guide's Derived/Test/ToyasCard.lean, 'card_holds'). Laid BY PROGRAM, IN A SANDBOX (cutbox-door.mjs). By AI agents, Wed Nov 11 2026. No macro, syntax, notation, axiom, sorry.
-/
import Derived.Test.YtflooblecbhcoaaDoorRows
import GoSem.ClaimSeven
namespace Go.Proofs.YtflooblecbhcoaaDoor
namespace Rows

/-- THE TIED CARD OF 'partylinelaw05.AdvancedEncode'. -/
def advancedEncodeCard : Claim7 := { stood := { row := advancedEncodeRow, standIns := [], harness := (true, "618b7aaf9dd03bea3bca4175cf9db5caf3c0296677eb9cb4fd279641f058462b"), looks := false }, kinds := [], alts := [], laidByText := true, laidKinds := [.data, .data], laidTests := true, laidLooks := .later }
def AdvancedEncodeCardSaid : Prop := Claim7.holds Tryd.pinned (.plain (OpenSpec.ofChange advancedEncodeSpec)) advancedEncodeCard

/-- THE TIED CARD OF 'partylinelaw05.AdvancedDecode'. -/
def advancedDecodeCard : Claim7 := { stood := { row := advancedDecodeRow, standIns := [], harness := (true, "618b7aaf9dd03bea3bca4175cf9db5caf3c0296677eb9cb4fd279641f058462b"), looks := false }, kinds := [], alts := [], laidByText := true, laidKinds := [.data, .data], laidTests := true, laidLooks := .later }
def AdvancedDecodeCardSaid : Prop := Claim7.holds Tryd.pinned (.plain (OpenSpec.ofChange advancedDecodeSpec)) advancedDecodeCard

/-- THE TIED CARD OF 'partylinelaw05.AdvancedStuff'. -/
def advancedStuffCard : Claim7 := { stood := { row := advancedStuffRow, standIns := [], harness := (true, "618b7aaf9dd03bea3bca4175cf9db5caf3c0296677eb9cb4fd279641f058462b"), looks := false }, kinds := [], alts := [], laidByText := true, laidKinds := [.data, .data], laidTests := true, laidLooks := .later }
def AdvancedStuffCardSaid : Prop := Claim7.holds Tryd.pinned (.plain (OpenSpec.ofChange advancedStuffSpec)) advancedStuffCard

/-- THE TIED CARD OF 'partylinelaw05.AdvancedBack'. -/
def advancedBackCard : Claim7 := { stood := { row := advancedBackRow, standIns := [], harness := (true, "618b7aaf9dd03bea3bca4175cf9db5caf3c0296677eb9cb4fd279641f058462b"), looks := false }, kinds := [], alts := [], laidByText := true, laidKinds := [.data, .data], laidTests := true, laidLooks := .later }
def AdvancedBackCardSaid : Prop := Claim7.holds Tryd.pinned (.plain (OpenSpec.ofChange advancedBackSpec)) advancedBackCard

/-- THE TIED CARD OF 'partylinelaw05.AdvancedTurned'. -/
def advancedTurnedCard : Claim7 := { stood := { row := advancedTurnedRow, standIns := [], harness := (true, "618b7aaf9dd03bea3bca4175cf9db5caf3c0296677eb9cb4fd279641f058462b"), looks := false }, kinds := [], alts := [], laidByText := true, laidKinds := [.data, .data], laidTests := true, laidLooks := .later }
def AdvancedTurnedCardSaid : Prop := Claim7.holds Tryd.pinned (.plain (OpenSpec.ofChange advancedTurnedSpec)) advancedTurnedCard

/-- THE TIED CARD OF 'partylinelaw05.AdvancedKnown'. -/
def advancedKnownCard : Claim7 := { stood := { row := advancedKnownRow, standIns := [], harness := (true, "618b7aaf9dd03bea3bca4175cf9db5caf3c0296677eb9cb4fd279641f058462b"), looks := false }, kinds := [], alts := [], laidByText := true, laidKinds := [.data, .data], laidTests := true, laidLooks := .later }
def AdvancedKnownCardSaid : Prop := Claim7.holds Tryd.pinned (.plain (OpenSpec.ofChange advancedKnownSpec)) advancedKnownCard

/-- THE SECOND FORM's CARD OF 'partylinelaw05.AdvancedEncode'. -/
def advancedEncodeUptoCard : Claim7 := { stood := { row := advancedEncodeUptoRow, standIns := [], harness := (true, "618b7aaf9dd03bea3bca4175cf9db5caf3c0296677eb9cb4fd279641f058462b"), looks := false }, kinds := [], alts := [], laidByText := true, laidKinds := [.data, .data], laidTests := true, laidLooks := .later }
def AdvancedEncodeUptoCardSaid : Prop := Claim7.holds Tryd.pinned (.plain (OpenSpec.upto advancedEncodeSpec)) advancedEncodeUptoCard

/-- THE SECOND FORM's CARD OF 'partylinelaw05.AdvancedDecode'. -/
def advancedDecodeUptoCard : Claim7 := { stood := { row := advancedDecodeUptoRow, standIns := [], harness := (true, "618b7aaf9dd03bea3bca4175cf9db5caf3c0296677eb9cb4fd279641f058462b"), looks := false }, kinds := [], alts := [], laidByText := true, laidKinds := [.data, .data], laidTests := true, laidLooks := .later }
def AdvancedDecodeUptoCardSaid : Prop := Claim7.holds Tryd.pinned (.plain (OpenSpec.upto advancedDecodeSpec)) advancedDecodeUptoCard

/-- THE SECOND FORM's CARD OF 'partylinelaw05.AdvancedStuff'. -/
def advancedStuffUptoCard : Claim7 := { stood := { row := advancedStuffUptoRow, standIns := [], harness := (true, "618b7aaf9dd03bea3bca4175cf9db5caf3c0296677eb9cb4fd279641f058462b"), looks := false }, kinds := [], alts := [], laidByText := true, laidKinds := [.data, .data], laidTests := true, laidLooks := .later }
def AdvancedStuffUptoCardSaid : Prop := Claim7.holds Tryd.pinned (.plain (OpenSpec.upto advancedStuffSpec)) advancedStuffUptoCard

/-- THE SECOND FORM's CARD OF 'partylinelaw05.AdvancedBack'. -/
def advancedBackUptoCard : Claim7 := { stood := { row := advancedBackUptoRow, standIns := [], harness := (true, "618b7aaf9dd03bea3bca4175cf9db5caf3c0296677eb9cb4fd279641f058462b"), looks := false }, kinds := [], alts := [], laidByText := true, laidKinds := [.data, .data], laidTests := true, laidLooks := .later }
def AdvancedBackUptoCardSaid : Prop := Claim7.holds Tryd.pinned (.plain (OpenSpec.upto advancedBackSpec)) advancedBackUptoCard

/-- THE SECOND FORM's CARD OF 'partylinelaw05.AdvancedTurned'. -/
def advancedTurnedUptoCard : Claim7 := { stood := { row := advancedTurnedUptoRow, standIns := [], harness := (true, "618b7aaf9dd03bea3bca4175cf9db5caf3c0296677eb9cb4fd279641f058462b"), looks := false }, kinds := [], alts := [], laidByText := true, laidKinds := [.data, .data], laidTests := true, laidLooks := .later }
def AdvancedTurnedUptoCardSaid : Prop := Claim7.holds Tryd.pinned (.plain (OpenSpec.upto advancedTurnedSpec)) advancedTurnedUptoCard

/-- THE SECOND FORM's CARD OF 'partylinelaw05.AdvancedKnown'. -/
def advancedKnownUptoCard : Claim7 := { stood := { row := advancedKnownUptoRow, standIns := [], harness := (true, "618b7aaf9dd03bea3bca4175cf9db5caf3c0296677eb9cb4fd279641f058462b"), looks := false }, kinds := [], alts := [], laidByText := true, laidKinds := [.data, .data], laidTests := true, laidLooks := .later }
def AdvancedKnownUptoCardSaid : Prop := Claim7.holds Tryd.pinned (.plain (OpenSpec.upto advancedKnownSpec)) advancedKnownUptoCard
end Rows
end Go.Proofs.YtflooblecbhcoaaDoor
