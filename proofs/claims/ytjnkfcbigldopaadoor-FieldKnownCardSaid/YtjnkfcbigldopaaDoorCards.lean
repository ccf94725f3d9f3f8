/-
  DERIVED. GIVEN WITH THE SEED: THE CARDS: each row of YtjnkfcbigldopaaDoorRows.lean that lists a variable, with what it lists TIED to the program's text (the seventh form; the later family's looks); each row that meets fmt, with fmt's text TOLD by the authors' own Lean function (tested against real Go, not proved from fmt's source: count such statements apart). THE CARD IS WHAT COUNTS. Prove the row's statement (the work); the ties are given (YtjnkfcbigldopaaDoorTie.lean); close each card by the builder's one call (the guide's Derived/Test/ToyasCard.lean, 'card_holds'). Laid BY PROGRAM, IN A SANDBOX (cutbox-door.mjs). By AI agents, Wed Nov 11 2026. No macro, syntax, notation, axiom, sorry.
-/
import Derived.Test.YtjnkfcbigldopaaDoorRows
import GoSem.ClaimSeven
namespace Go.Proofs.YtjnkfcbigldopaaDoor
namespace Rows

/-- THE TIED CARD OF 'partylinelaw03.FieldPut'. -/
def fieldPutCard : Claim7 := { stood := { row := fieldPutRow, standIns := [], harness := (true, "61a85a989505ebb32721afefa9a733394372384f85b6b27b962167a33b22aadc"), looks := false }, kinds := [], alts := [], laidByText := true, laidKinds := [.data], laidTests := true, laidLooks := .later }
def FieldPutCardSaid : Prop := Claim7.holds Tryd.pinned (.plain (OpenSpec.ofChange fieldPutSpec)) fieldPutCard

/-- THE TIED CARD OF 'partylinelaw03.FieldGet'. -/
def fieldGetCard : Claim7 := { stood := { row := fieldGetRow, standIns := [], harness := (true, "61a85a989505ebb32721afefa9a733394372384f85b6b27b962167a33b22aadc"), looks := false }, kinds := [], alts := [], laidByText := true, laidKinds := [.data], laidTests := true, laidLooks := .later }
def FieldGetCardSaid : Prop := Claim7.holds Tryd.pinned (.plain (OpenSpec.ofChange fieldGetSpec)) fieldGetCard

/-- THE TIED CARD OF 'partylinelaw03.FieldKinds'. -/
def fieldKindsCard : Claim7 := { stood := { row := fieldKindsRow, standIns := [], harness := (true, "61a85a989505ebb32721afefa9a733394372384f85b6b27b962167a33b22aadc"), looks := false }, kinds := [], alts := [], laidByText := true, laidKinds := [.data], laidTests := true, laidLooks := .later }
def FieldKindsCardSaid : Prop := Claim7.holds Tryd.pinned (.plain (OpenSpec.ofChange fieldKindsSpec)) fieldKindsCard

/-- THE TIED CARD OF 'partylinelaw03.FieldBack'. -/
def fieldBackCard : Claim7 := { stood := { row := fieldBackRow, standIns := [], harness := (true, "61a85a989505ebb32721afefa9a733394372384f85b6b27b962167a33b22aadc"), looks := false }, kinds := [], alts := [], laidByText := true, laidKinds := [.data], laidTests := true, laidLooks := .later }
def FieldBackCardSaid : Prop := Claim7.holds Tryd.pinned (.plain (OpenSpec.ofChange fieldBackSpec)) fieldBackCard

/-- THE TIED CARD OF 'partylinelaw03.FieldKnown'. -/
def fieldKnownCard : Claim7 := { stood := { row := fieldKnownRow, standIns := [], harness := (true, "61a85a989505ebb32721afefa9a733394372384f85b6b27b962167a33b22aadc"), looks := false }, kinds := [], alts := [], laidByText := true, laidKinds := [.data], laidTests := true, laidLooks := .later }
def FieldKnownCardSaid : Prop := Claim7.holds Tryd.pinned (.plain (OpenSpec.ofChange fieldKnownSpec)) fieldKnownCard

/-- THE SECOND FORM's CARD OF 'partylinelaw03.FieldPut'. -/
def fieldPutUptoCard : Claim7 := { stood := { row := fieldPutUptoRow, standIns := [], harness := (true, "61a85a989505ebb32721afefa9a733394372384f85b6b27b962167a33b22aadc"), looks := false }, kinds := [], alts := [], laidByText := true, laidKinds := [.data], laidTests := true, laidLooks := .later }
def FieldPutUptoCardSaid : Prop := Claim7.holds Tryd.pinned (.plain (OpenSpec.upto fieldPutSpec)) fieldPutUptoCard

/-- THE SECOND FORM's CARD OF 'partylinelaw03.FieldGet'. -/
def fieldGetUptoCard : Claim7 := { stood := { row := fieldGetUptoRow, standIns := [], harness := (true, "61a85a989505ebb32721afefa9a733394372384f85b6b27b962167a33b22aadc"), looks := false }, kinds := [], alts := [], laidByText := true, laidKinds := [.data], laidTests := true, laidLooks := .later }
def FieldGetUptoCardSaid : Prop := Claim7.holds Tryd.pinned (.plain (OpenSpec.upto fieldGetSpec)) fieldGetUptoCard

/-- THE SECOND FORM's CARD OF 'partylinelaw03.FieldKinds'. -/
def fieldKindsUptoCard : Claim7 := { stood := { row := fieldKindsUptoRow, standIns := [], harness := (true, "61a85a989505ebb32721afefa9a733394372384f85b6b27b962167a33b22aadc"), looks := false }, kinds := [], alts := [], laidByText := true, laidKinds := [.data], laidTests := true, laidLooks := .later }
def FieldKindsUptoCardSaid : Prop := Claim7.holds Tryd.pinned (.plain (OpenSpec.upto fieldKindsSpec)) fieldKindsUptoCard

/-- THE SECOND FORM's CARD OF 'partylinelaw03.FieldBack'. -/
def fieldBackUptoCard : Claim7 := { stood := { row := fieldBackUptoRow, standIns := [], harness := (true, "61a85a989505ebb32721afefa9a733394372384f85b6b27b962167a33b22aadc"), looks := false }, kinds := [], alts := [], laidByText := true, laidKinds := [.data], laidTests := true, laidLooks := .later }
def FieldBackUptoCardSaid : Prop := Claim7.holds Tryd.pinned (.plain (OpenSpec.upto fieldBackSpec)) fieldBackUptoCard

/-- THE SECOND FORM's CARD OF 'partylinelaw03.FieldKnown'. -/
def fieldKnownUptoCard : Claim7 := { stood := { row := fieldKnownUptoRow, standIns := [], harness := (true, "61a85a989505ebb32721afefa9a733394372384f85b6b27b962167a33b22aadc"), looks := false }, kinds := [], alts := [], laidByText := true, laidKinds := [.data], laidTests := true, laidLooks := .later }
def FieldKnownUptoCardSaid : Prop := Claim7.holds Tryd.pinned (.plain (OpenSpec.upto fieldKnownSpec)) fieldKnownUptoCard
end Rows
end Go.Proofs.YtjnkfcbigldopaaDoor
