/-
  NARROWER THAN 'FOR EVERY INPUT', by the rows' own cells (each row's printed sentence says how): DeframeFrames: laid · DeframeComes: laid · DeframeTrue: laid.
  DERIVED. THE GIVEN ROWS OF THIS SEAT. 3 by the template 'for every input the law returns true; each argument reads behind the call as it read before'; 0 by the template 'total and deterministic' (their statements: YtnnimkailajgaaaDoorTotals.lean).
  GIVEN WITH THE SEED: the statements are not yours to turn. If you find one false, say at which input.
  Laid BY PROGRAM, IN A SANDBOX (cutbox-rows.mjs): the forced cells as the released guide's own fill.sh prints them over the translation b6e2fe33f4b6a74d… (all of the seat's roots in one cut). By AI agents, Wed Nov 11 2026. No macro, syntax, notation, axiom, sorry.
-/
import Derived.Test.YtnnimkailajgaaaDoorChecked
import GoSem.Claim
import GoSem.ClaimJoined
import GoSem.ClaimMapViews
import Derived.JoinedTies
import Derived.KernelRfl
namespace Go.Proofs.YtnnimkailajgaaaDoor
/- THE CELL 'sum', in the pinned program and in every row, IS THE sha256 OF THE DUMP (.gsa) THAT YtnnimkailajgaaaDoorProg.lean LOADS. Nothing in Lean hashes anything: it is a label: what it is worth is what the hold of that sum in a sandbox is worth. -/
noncomputable def Tryd.pinned : Pinned := { name := "ytnnimkailajgaaadoor", sum := "b6e2fe33f4b6a74d1e0201df580ad7658aaa3d023300c2b6fffe2a37d161a328", checked := Tryd.checked }
namespace Rows
def none {H : Type} : Left H := { results := [], args := [] }

/- WHAT THE LISTED PACKAGE-LEVEL VARIABLES READ AS WHEN THE CALL BEGINS. Each datum BY PROGRAM (the guide's laid-datum.mjs) off the statement by which the dump's own 'gosem.cut.vars' lays the variable. In a bare row this is a premise. The card (YtnnimkailajgaaaDoorCards.lean) ties it to the program's text. -/
def laid_partyline_fcs_half {H : Type} : DataW H := .agg [.lit (.int .u8 0), .lit (.int .u8 28), .lit (.int .u8 56), .lit (.int .u8 36), .lit (.int .u8 112), .lit (.int .u8 108), .lit (.int .u8 72), .lit (.int .u8 84), .lit (.int .u8 224), .lit (.int .u8 252), .lit (.int .u8 216), .lit (.int .u8 196), .lit (.int .u8 144), .lit (.int .u8 140), .lit (.int .u8 168), .lit (.int .u8 180)]
def laid_partyline_field_octets {H : Type} : DataW H := .agg [.lit (.int .u8 0), .lit (.int .u8 47), .lit (.int .u8 99), .lit (.int .u8 15), .lit (.int .u8 67), .lit (.int .u8 239), .lit (.int .u8 3), .lit (.int .u8 0), .lit (.int .u8 1), .lit (.int .u8 5), .lit (.int .u8 9)]

/-- 'partylinelaw06.DeframeFrames': WHATEVER THE INPUT: true; the input reads as it did. -/
def deframeFramesSpec : ChangeSpec := { name := "deframeFrames", fn := fun _ => fun
  | [d1, d2, d3] => { results := [.lit (.bool true)], args := [d1, d2, d3] }
  | _ => none }
def deframeFramesRow : OpenClaim := { program := "ytnnimkailajgaaadoor", sum := "b6e2fe33f4b6a74d1e0201df580ad7658aaa3d023300c2b6fffe2a37d161a328", func := "partyline/partylinelaw06.DeframeFrames", spec := "deframeFrames", unfollowed := true, recurses := true, named := ["partyline/field.octets", "partyline/fcs.half"], apart := false, laid := [("partyline/fcs.half", laid_partyline_fcs_half), ("partyline/field.octets", laid_partyline_field_octets)] }
def DeframeFramesSaid : Prop := deframeFramesRow.holds Tryd.pinned (OpenSpec.ofChange deframeFramesSpec)

/-- ITS FALSE NEIGHBOUR: 'it returns false'. Refute it at one input. -/
def deframeFramesWrong : ChangeSpec := { name := "deframeFrames", fn := fun _ => fun
  | [d1, d2, d3] => { results := [.lit (.bool false)], args := [d1, d2, d3] }
  | _ => none }
def DeframeFramesWrongFalsely : Prop := deframeFramesRow.holds Tryd.pinned (OpenSpec.ofChange deframeFramesWrong)

/-- 'partylinelaw06.DeframeComes': WHATEVER THE INPUT: true; the input reads as it did. -/
def deframeComesSpec : ChangeSpec := { name := "deframeComes", fn := fun _ => fun
  | [d1, d2, d3] => { results := [.lit (.bool true)], args := [d1, d2, d3] }
  | _ => none }
def deframeComesRow : OpenClaim := { program := "ytnnimkailajgaaadoor", sum := "b6e2fe33f4b6a74d1e0201df580ad7658aaa3d023300c2b6fffe2a37d161a328", func := "partyline/partylinelaw06.DeframeComes", spec := "deframeComes", unfollowed := true, recurses := true, named := ["partyline/field.octets", "partyline/fcs.half"], apart := false, laid := [("partyline/fcs.half", laid_partyline_fcs_half), ("partyline/field.octets", laid_partyline_field_octets)] }
def DeframeComesSaid : Prop := deframeComesRow.holds Tryd.pinned (OpenSpec.ofChange deframeComesSpec)

/-- ITS FALSE NEIGHBOUR: 'it returns false'. Refute it at one input. -/
def deframeComesWrong : ChangeSpec := { name := "deframeComes", fn := fun _ => fun
  | [d1, d2, d3] => { results := [.lit (.bool false)], args := [d1, d2, d3] }
  | _ => none }
def DeframeComesWrongFalsely : Prop := deframeComesRow.holds Tryd.pinned (OpenSpec.ofChange deframeComesWrong)

/-- 'partylinelaw06.DeframeTrue': WHATEVER THE INPUT: true; the input reads as it did. -/
def deframeTrueSpec : ChangeSpec := { name := "deframeTrue", fn := fun _ => fun
  | [d1, d2] => { results := [.lit (.bool true)], args := [d1, d2] }
  | _ => none }
def deframeTrueRow : OpenClaim := { program := "ytnnimkailajgaaadoor", sum := "b6e2fe33f4b6a74d1e0201df580ad7658aaa3d023300c2b6fffe2a37d161a328", func := "partyline/partylinelaw06.DeframeTrue", spec := "deframeTrue", unfollowed := true, recurses := true, named := ["partyline/field.octets", "partyline/fcs.half"], apart := false, laid := [("partyline/fcs.half", laid_partyline_fcs_half), ("partyline/field.octets", laid_partyline_field_octets)] }
def DeframeTrueSaid : Prop := deframeTrueRow.holds Tryd.pinned (OpenSpec.ofChange deframeTrueSpec)

/-- ITS FALSE NEIGHBOUR: 'it returns false'. Refute it at one input. -/
def deframeTrueWrong : ChangeSpec := { name := "deframeTrue", fn := fun _ => fun
  | [d1, d2] => { results := [.lit (.bool false)], args := [d1, d2] }
  | _ => none }
def DeframeTrueWrongFalsely : Prop := deframeTrueRow.holds Tryd.pinned (OpenSpec.ofChange deframeTrueWrong)

/- THE SECOND FORM. 'bulk': how many values and letters a reading holds, each counted each time it is reached (what is shared counts as often as it is met; a slice's spare places count too). A statement '..UptoSaid' is the law's where the arguments, and the package variables that the reading takes, are together of bulk at most 1048576: NARROWER than '..Said'. Prove '..Said' where nothing that the law and all that it calls make is longer than what came in: it says more and counts as full. Else prove '..UptoSaid'. A law counts once. -/
mutual
def uptoBulk {H : Type} : DataW H → Nat
  | .lit (.string bytes) => bytes.length + 1
  | .lit _ => 1
  | .nil => 1
  | .ptr d => uptoBulk d + 1
  | .slice elems spare => uptoBulkAll elems + uptoBulkAll spare + 1
  | .agg parts => uptoBulkAll parts + 1
  | .iface _ d => uptoBulk d + 1
  | .map entries => uptoBulkEntries entries + 1
  | .held _ => 1
def uptoBulkAll {H : Type} : List (DataW H) → Nat
  | [] => 0
  | d :: r => uptoBulk d + uptoBulkAll r
def uptoBulkEntries {H : Type} : List (Lit × DataW H) → Nat
  | [] => 0
  | x :: r => uptoBulkEntry x + uptoBulkEntries r
def uptoBulkEntry {H : Type} : Lit × DataW H → Nat
  | (.string bytes, d) => bytes.length + uptoBulk d + 1
  | (_, d) => uptoBulk d + 1
 end
def uptoSmall : (H : Type) → List (DataW H) → Bool := fun _ ds => decide (uptoBulkAll ds ≤ 1048576)
def OpenSpec.upto (s : _root_.Go.ChangeSpec) : _root_.Go.OpenSpec := { _root_.Go.OpenSpec.ofChange s with cond := some uptoSmall }

/-- 'partylinelaw06.DeframeFrames', WHERE WHAT IT READS IS OF BULK AT MOST 1048576: true; the input reads as it did. -/
def deframeFramesUptoRow : OpenClaim := { program := "ytnnimkailajgaaadoor", sum := "b6e2fe33f4b6a74d1e0201df580ad7658aaa3d023300c2b6fffe2a37d161a328", func := "partyline/partylinelaw06.DeframeFrames", spec := "deframeFrames", unfollowed := true, recurses := true, named := ["partyline/field.octets", "partyline/fcs.half"], apart := false, laid := [("partyline/fcs.half", laid_partyline_fcs_half), ("partyline/field.octets", laid_partyline_field_octets)], narrowed := true }
def DeframeFramesUptoSaid : Prop := deframeFramesUptoRow.holds Tryd.pinned (OpenSpec.upto deframeFramesSpec)

/-- 'partylinelaw06.DeframeComes', WHERE WHAT IT READS IS OF BULK AT MOST 1048576: true; the input reads as it did. -/
def deframeComesUptoRow : OpenClaim := { program := "ytnnimkailajgaaadoor", sum := "b6e2fe33f4b6a74d1e0201df580ad7658aaa3d023300c2b6fffe2a37d161a328", func := "partyline/partylinelaw06.DeframeComes", spec := "deframeComes", unfollowed := true, recurses := true, named := ["partyline/field.octets", "partyline/fcs.half"], apart := false, laid := [("partyline/fcs.half", laid_partyline_fcs_half), ("partyline/field.octets", laid_partyline_field_octets)], narrowed := true }
def DeframeComesUptoSaid : Prop := deframeComesUptoRow.holds Tryd.pinned (OpenSpec.upto deframeComesSpec)

/-- 'partylinelaw06.DeframeTrue', WHERE WHAT IT READS IS OF BULK AT MOST 1048576: true; the input reads as it did. -/
def deframeTrueUptoRow : OpenClaim := { program := "ytnnimkailajgaaadoor", sum := "b6e2fe33f4b6a74d1e0201df580ad7658aaa3d023300c2b6fffe2a37d161a328", func := "partyline/partylinelaw06.DeframeTrue", spec := "deframeTrue", unfollowed := true, recurses := true, named := ["partyline/field.octets", "partyline/fcs.half"], apart := false, laid := [("partyline/fcs.half", laid_partyline_fcs_half), ("partyline/field.octets", laid_partyline_field_octets)], narrowed := true }
def DeframeTrueUptoSaid : Prop := deframeTrueUptoRow.holds Tryd.pinned (OpenSpec.upto deframeTrueSpec)

end Rows
end Go.Proofs.YtnnimkailajgaaaDoor
