/-
  DERIVED. GIVEN WITH THE SEED: THE CARDS: each row of YtnnimkailajgaaaDoorRows.lean that lists a variable, with what it lists TIED to the program's text (the seventh form; the later family's looks); each row that meets fmt, with fmt's text TOLD by the authors' own Lean function (tested against real Go, not proved from fmt's source: count such statements apart). THE CARD IS WHAT COUNTS. Prove the row's statement (the work); the ties are given (YtnnimkailajgaaaDoorTie.lean); close each card by the builder's one call (the guide's Derived/Test/ToyasCard.lean, 'card_holds'). Laid BY PROGRAM, IN A SANDBOX (cutbox-door.mjs). By AI agents, Wed Nov 11 2026. No macro, syntax, notation, axiom, sorry.
-/
import Derived.Test.YtnnimkailajgaaaDoorRows
import GoSem.ClaimSeven
namespace Go.Proofs.YtnnimkailajgaaaDoor
namespace Rows

/-- THE TIED CARD OF 'partylinelaw06.DeframeFrames'. -/
def deframeFramesCard : Claim7 := { stood := { row := deframeFramesRow, standIns := [], harness := (true, "e2aabdf26c20b1cc7589dc1f4558f55b6d68933a6cbdc05cbc4eec8e1ffc5a92"), looks := false }, kinds := [], alts := [], laidByText := true, laidKinds := [.data, .data], laidTests := true, laidLooks := .later }
def DeframeFramesCardSaid : Prop := Claim7.holds Tryd.pinned (.plain (OpenSpec.ofChange deframeFramesSpec)) deframeFramesCard

/-- THE TIED CARD OF 'partylinelaw06.DeframeComes'. -/
def deframeComesCard : Claim7 := { stood := { row := deframeComesRow, standIns := [], harness := (true, "e2aabdf26c20b1cc7589dc1f4558f55b6d68933a6cbdc05cbc4eec8e1ffc5a92"), looks := false }, kinds := [], alts := [], laidByText := true, laidKinds := [.data, .data], laidTests := true, laidLooks := .later }
def DeframeComesCardSaid : Prop := Claim7.holds Tryd.pinned (.plain (OpenSpec.ofChange deframeComesSpec)) deframeComesCard

/-- THE TIED CARD OF 'partylinelaw06.DeframeTrue'. -/
def deframeTrueCard : Claim7 := { stood := { row := deframeTrueRow, standIns := [], harness := (true, "e2aabdf26c20b1cc7589dc1f4558f55b6d68933a6cbdc05cbc4eec8e1ffc5a92"), looks := false }, kinds := [], alts := [], laidByText := true, laidKinds := [.data, .data], laidTests := true, laidLooks := .later }
def DeframeTrueCardSaid : Prop := Claim7.holds Tryd.pinned (.plain (OpenSpec.ofChange deframeTrueSpec)) deframeTrueCard

/-- THE SECOND FORM's CARD OF 'partylinelaw06.DeframeFrames'. -/
def deframeFramesUptoCard : Claim7 := { stood := { row := deframeFramesUptoRow, standIns := [], harness := (true, "e2aabdf26c20b1cc7589dc1f4558f55b6d68933a6cbdc05cbc4eec8e1ffc5a92"), looks := false }, kinds := [], alts := [], laidByText := true, laidKinds := [.data, .data], laidTests := true, laidLooks := .later }
def DeframeFramesUptoCardSaid : Prop := Claim7.holds Tryd.pinned (.plain (OpenSpec.upto deframeFramesSpec)) deframeFramesUptoCard

/-- THE SECOND FORM's CARD OF 'partylinelaw06.DeframeComes'. -/
def deframeComesUptoCard : Claim7 := { stood := { row := deframeComesUptoRow, standIns := [], harness := (true, "e2aabdf26c20b1cc7589dc1f4558f55b6d68933a6cbdc05cbc4eec8e1ffc5a92"), looks := false }, kinds := [], alts := [], laidByText := true, laidKinds := [.data, .data], laidTests := true, laidLooks := .later }
def DeframeComesUptoCardSaid : Prop := Claim7.holds Tryd.pinned (.plain (OpenSpec.upto deframeComesSpec)) deframeComesUptoCard

/-- THE SECOND FORM's CARD OF 'partylinelaw06.DeframeTrue'. -/
def deframeTrueUptoCard : Claim7 := { stood := { row := deframeTrueUptoRow, standIns := [], harness := (true, "e2aabdf26c20b1cc7589dc1f4558f55b6d68933a6cbdc05cbc4eec8e1ffc5a92"), looks := false }, kinds := [], alts := [], laidByText := true, laidKinds := [.data, .data], laidTests := true, laidLooks := .later }
def DeframeTrueUptoCardSaid : Prop := Claim7.holds Tryd.pinned (.plain (OpenSpec.upto deframeTrueSpec)) deframeTrueUptoCard
end Rows
end Go.Proofs.YtnnimkailajgaaaDoor
