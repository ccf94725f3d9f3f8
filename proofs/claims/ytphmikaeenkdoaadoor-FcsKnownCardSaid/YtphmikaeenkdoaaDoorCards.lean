/-
  DERIVED. GIVEN WITH THE SEED: THE CARDS: each row of YtphmikaeenkdoaaDoorRows.lean that lists a variable, with what it lists TIED to the program's text (the seventh form; the later family's looks); each row that meets fmt, with fmt's text TOLD by the authors' own Lean function (tested against real Go, not proved from fmt's source: count such statements apart). THE CARD IS WHAT COUNTS. Prove the row's statement (the work); the ties are given (YtphmikaeenkdoaaDoorTie.lean); close each card by the builder's one call (the guide's Derived/Test/ToyasCard.lean, 'card_holds'). Laid BY PROGRAM, IN A SANDBOX (cutbox-door.mjs). By AI agents, Wed Nov 11 2026. No macro, syntax, notation, axiom, sorry.
-/
import Derived.Test.YtphmikaeenkdoaaDoorRows
import GoSem.ClaimSeven
namespace Go.Proofs.YtphmikaeenkdoaaDoor
namespace Rows

/-- THE TIED CARD OF 'partylinelaw01.FcsStep'. -/
def fcsStepCard : Claim7 := { stood := { row := fcsStepRow, standIns := [], harness := (true, "05d7b48f1f229c4aa47449716f6b0e96a2f93bb532c6d42a5309fb8ab7bc720a"), looks := false }, kinds := [], alts := [], laidByText := true, laidKinds := [.data], laidTests := true, laidLooks := .later }
def FcsStepCardSaid : Prop := Claim7.holds Tryd.pinned (.plain (OpenSpec.ofChange fcsStepSpec)) fcsStepCard

/-- THE TIED CARD OF 'partylinelaw01.FcsSums'. -/
def fcsSumsCard : Claim7 := { stood := { row := fcsSumsRow, standIns := [], harness := (true, "05d7b48f1f229c4aa47449716f6b0e96a2f93bb532c6d42a5309fb8ab7bc720a"), looks := false }, kinds := [], alts := [], laidByText := true, laidKinds := [.data], laidTests := true, laidLooks := .later }
def FcsSumsCardSaid : Prop := Claim7.holds Tryd.pinned (.plain (OpenSpec.ofChange fcsSumsSpec)) fcsSumsCard

/-- THE TIED CARD OF 'partylinelaw01.FcsMends'. -/
def fcsMendsCard : Claim7 := { stood := { row := fcsMendsRow, standIns := [], harness := (true, "05d7b48f1f229c4aa47449716f6b0e96a2f93bb532c6d42a5309fb8ab7bc720a"), looks := false }, kinds := [], alts := [], laidByText := true, laidKinds := [.data], laidTests := true, laidLooks := .later }
def FcsMendsCardSaid : Prop := Claim7.holds Tryd.pinned (.plain (OpenSpec.ofChange fcsMendsSpec)) fcsMendsCard

/-- THE TIED CARD OF 'partylinelaw01.FcsGood'. -/
def fcsGoodCard : Claim7 := { stood := { row := fcsGoodRow, standIns := [], harness := (true, "05d7b48f1f229c4aa47449716f6b0e96a2f93bb532c6d42a5309fb8ab7bc720a"), looks := false }, kinds := [], alts := [], laidByText := true, laidKinds := [.data], laidTests := true, laidLooks := .later }
def FcsGoodCardSaid : Prop := Claim7.holds Tryd.pinned (.plain (OpenSpec.ofChange fcsGoodSpec)) fcsGoodCard

/-- THE TIED CARD OF 'partylinelaw01.FcsNear'. -/
def fcsNearCard : Claim7 := { stood := { row := fcsNearRow, standIns := [], harness := (true, "05d7b48f1f229c4aa47449716f6b0e96a2f93bb532c6d42a5309fb8ab7bc720a"), looks := false }, kinds := [], alts := [], laidByText := true, laidKinds := [.data], laidTests := true, laidLooks := .later }
def FcsNearCardSaid : Prop := Claim7.holds Tryd.pinned (.plain (OpenSpec.ofChange fcsNearSpec)) fcsNearCard

/-- THE TIED CARD OF 'partylinelaw01.FcsBits'. -/
def fcsBitsCard : Claim7 := { stood := { row := fcsBitsRow, standIns := [], harness := (true, "05d7b48f1f229c4aa47449716f6b0e96a2f93bb532c6d42a5309fb8ab7bc720a"), looks := false }, kinds := [], alts := [], laidByText := true, laidKinds := [.data], laidTests := true, laidLooks := .later }
def FcsBitsCardSaid : Prop := Claim7.holds Tryd.pinned (.plain (OpenSpec.ofChange fcsBitsSpec)) fcsBitsCard

/-- THE TIED CARD OF 'partylinelaw01.FcsKnown'. -/
def fcsKnownCard : Claim7 := { stood := { row := fcsKnownRow, standIns := [], harness := (true, "05d7b48f1f229c4aa47449716f6b0e96a2f93bb532c6d42a5309fb8ab7bc720a"), looks := false }, kinds := [], alts := [], laidByText := true, laidKinds := [.data], laidTests := true, laidLooks := .later }
def FcsKnownCardSaid : Prop := Claim7.holds Tryd.pinned (.plain (OpenSpec.ofChange fcsKnownSpec)) fcsKnownCard

/-- THE SECOND FORM's CARD OF 'partylinelaw01.FcsStep'. -/
def fcsStepUptoCard : Claim7 := { stood := { row := fcsStepUptoRow, standIns := [], harness := (true, "05d7b48f1f229c4aa47449716f6b0e96a2f93bb532c6d42a5309fb8ab7bc720a"), looks := false }, kinds := [], alts := [], laidByText := true, laidKinds := [.data], laidTests := true, laidLooks := .later }
def FcsStepUptoCardSaid : Prop := Claim7.holds Tryd.pinned (.plain (OpenSpec.upto fcsStepSpec)) fcsStepUptoCard

/-- THE SECOND FORM's CARD OF 'partylinelaw01.FcsSums'. -/
def fcsSumsUptoCard : Claim7 := { stood := { row := fcsSumsUptoRow, standIns := [], harness := (true, "05d7b48f1f229c4aa47449716f6b0e96a2f93bb532c6d42a5309fb8ab7bc720a"), looks := false }, kinds := [], alts := [], laidByText := true, laidKinds := [.data], laidTests := true, laidLooks := .later }
def FcsSumsUptoCardSaid : Prop := Claim7.holds Tryd.pinned (.plain (OpenSpec.upto fcsSumsSpec)) fcsSumsUptoCard

/-- THE SECOND FORM's CARD OF 'partylinelaw01.FcsMends'. -/
def fcsMendsUptoCard : Claim7 := { stood := { row := fcsMendsUptoRow, standIns := [], harness := (true, "05d7b48f1f229c4aa47449716f6b0e96a2f93bb532c6d42a5309fb8ab7bc720a"), looks := false }, kinds := [], alts := [], laidByText := true, laidKinds := [.data], laidTests := true, laidLooks := .later }
def FcsMendsUptoCardSaid : Prop := Claim7.holds Tryd.pinned (.plain (OpenSpec.upto fcsMendsSpec)) fcsMendsUptoCard

/-- THE SECOND FORM's CARD OF 'partylinelaw01.FcsGood'. -/
def fcsGoodUptoCard : Claim7 := { stood := { row := fcsGoodUptoRow, standIns := [], harness := (true, "05d7b48f1f229c4aa47449716f6b0e96a2f93bb532c6d42a5309fb8ab7bc720a"), looks := false }, kinds := [], alts := [], laidByText := true, laidKinds := [.data], laidTests := true, laidLooks := .later }
def FcsGoodUptoCardSaid : Prop := Claim7.holds Tryd.pinned (.plain (OpenSpec.upto fcsGoodSpec)) fcsGoodUptoCard

/-- THE SECOND FORM's CARD OF 'partylinelaw01.FcsNear'. -/
def fcsNearUptoCard : Claim7 := { stood := { row := fcsNearUptoRow, standIns := [], harness := (true, "05d7b48f1f229c4aa47449716f6b0e96a2f93bb532c6d42a5309fb8ab7bc720a"), looks := false }, kinds := [], alts := [], laidByText := true, laidKinds := [.data], laidTests := true, laidLooks := .later }
def FcsNearUptoCardSaid : Prop := Claim7.holds Tryd.pinned (.plain (OpenSpec.upto fcsNearSpec)) fcsNearUptoCard

/-- THE SECOND FORM's CARD OF 'partylinelaw01.FcsBits'. -/
def fcsBitsUptoCard : Claim7 := { stood := { row := fcsBitsUptoRow, standIns := [], harness := (true, "05d7b48f1f229c4aa47449716f6b0e96a2f93bb532c6d42a5309fb8ab7bc720a"), looks := false }, kinds := [], alts := [], laidByText := true, laidKinds := [.data], laidTests := true, laidLooks := .later }
def FcsBitsUptoCardSaid : Prop := Claim7.holds Tryd.pinned (.plain (OpenSpec.upto fcsBitsSpec)) fcsBitsUptoCard

/-- THE SECOND FORM's CARD OF 'partylinelaw01.FcsKnown'. -/
def fcsKnownUptoCard : Claim7 := { stood := { row := fcsKnownUptoRow, standIns := [], harness := (true, "05d7b48f1f229c4aa47449716f6b0e96a2f93bb532c6d42a5309fb8ab7bc720a"), looks := false }, kinds := [], alts := [], laidByText := true, laidKinds := [.data], laidTests := true, laidLooks := .later }
def FcsKnownUptoCardSaid : Prop := Claim7.holds Tryd.pinned (.plain (OpenSpec.upto fcsKnownSpec)) fcsKnownUptoCard
end Rows
end Go.Proofs.YtphmikaeenkdoaaDoor
