/-
  NARROWER THAN 'FOR EVERY INPUT', by the rows' own cells (each row's printed sentence says how): AdvancedEncode: laid · AdvancedDecode: laid · AdvancedStuff: laid · AdvancedBack: laid · AdvancedTurned: laid · AdvancedKnown: laid.
  DERIVED. THE GIVEN ROWS OF THIS SEAT. 6 by the template 'for every input the law returns true; each argument reads behind the call as it read before'; 0 by the template 'total and deterministic' (their statements: YtflooblecbhcoaaDoorTotals.lean).
  GIVEN WITH THE SEED: the statements are not yours to turn. If you find one false, say at which input.
  Laid BY PROGRAM, IN A SANDBOX (cutbox-rows.mjs): the forced cells as the released guide's own fill.sh prints them over the translation 3804a5c5cc6e6d53… (all of the seat's roots in one cut). By AI agents, Wed Nov 11 2026. No macro, syntax, notation, axiom, sorry.
-/
import Derived.Test.YtflooblecbhcoaaDoorChecked
import GoSem.Claim
import GoSem.ClaimJoined
import GoSem.ClaimMapViews
import Derived.JoinedTies
import Derived.KernelRfl
namespace Go.Proofs.YtflooblecbhcoaaDoor
/- THE CELL 'sum', in the pinned program and in every row, IS THE sha256 OF THE DUMP (.gsa) THAT YtflooblecbhcoaaDoorProg.lean LOADS. Nothing in Lean hashes anything: it is a label: what it is worth is what the hold of that sum in a sandbox is worth. -/
noncomputable def Tryd.pinned : Pinned := { name := "ytflooblecbhcoaadoor", sum := "3804a5c5cc6e6d5379ed6c4ecac9dfcc70e7be03b5430db1d5739da6f447fc20", checked := Tryd.checked }
namespace Rows
def none {H : Type} : Left H := { results := [], args := [] }

/- WHAT THE LISTED PACKAGE-LEVEL VARIABLES READ AS WHEN THE CALL BEGINS. Each datum BY PROGRAM (the guide's laid-datum.mjs) off the statement by which the dump's own 'gosem.cut.vars' lays the variable. In a bare row this is a premise. The card (YtflooblecbhcoaaDoorCards.lean) ties it to the program's text. -/
def laid_partyline_fcs_half {H : Type} : DataW H := .agg [.lit (.int .u8 0), .lit (.int .u8 28), .lit (.int .u8 56), .lit (.int .u8 36), .lit (.int .u8 112), .lit (.int .u8 108), .lit (.int .u8 72), .lit (.int .u8 84), .lit (.int .u8 224), .lit (.int .u8 252), .lit (.int .u8 216), .lit (.int .u8 196), .lit (.int .u8 144), .lit (.int .u8 140), .lit (.int .u8 168), .lit (.int .u8 180)]
def laid_partyline_field_octets {H : Type} : DataW H := .agg [.lit (.int .u8 0), .lit (.int .u8 47), .lit (.int .u8 99), .lit (.int .u8 15), .lit (.int .u8 67), .lit (.int .u8 239), .lit (.int .u8 3), .lit (.int .u8 0), .lit (.int .u8 1), .lit (.int .u8 5), .lit (.int .u8 9)]

/-- 'partylinelaw05.AdvancedEncode': WHATEVER THE INPUT: true; the input reads as it did. -/
def advancedEncodeSpec : ChangeSpec := { name := "advancedEncode", fn := fun _ => fun
  | [d1, d2, d3] => { results := [.lit (.bool true)], args := [d1, d2, d3] }
  | _ => none }
def advancedEncodeRow : OpenClaim := { program := "ytflooblecbhcoaadoor", sum := "3804a5c5cc6e6d5379ed6c4ecac9dfcc70e7be03b5430db1d5739da6f447fc20", func := "partyline/partylinelaw05.AdvancedEncode", spec := "advancedEncode", named := ["partyline/field.octets", "partyline/fcs.half"], apart := false, laid := [("partyline/fcs.half", laid_partyline_fcs_half), ("partyline/field.octets", laid_partyline_field_octets)] }
def AdvancedEncodeSaid : Prop := advancedEncodeRow.holds Tryd.pinned (OpenSpec.ofChange advancedEncodeSpec)

/-- ITS FALSE NEIGHBOUR: 'it returns false'. Refute it at one input. -/
def advancedEncodeWrong : ChangeSpec := { name := "advancedEncode", fn := fun _ => fun
  | [d1, d2, d3] => { results := [.lit (.bool false)], args := [d1, d2, d3] }
  | _ => none }
def AdvancedEncodeWrongFalsely : Prop := advancedEncodeRow.holds Tryd.pinned (OpenSpec.ofChange advancedEncodeWrong)

/-- 'partylinelaw05.AdvancedDecode': WHATEVER THE INPUT: true; the input reads as it did. -/
def advancedDecodeSpec : ChangeSpec := { name := "advancedDecode", fn := fun _ => fun
  | [d1, d2, d3] => { results := [.lit (.bool true)], args := [d1, d2, d3] }
  | _ => none }
def advancedDecodeRow : OpenClaim := { program := "ytflooblecbhcoaadoor", sum := "3804a5c5cc6e6d5379ed6c4ecac9dfcc70e7be03b5430db1d5739da6f447fc20", func := "partyline/partylinelaw05.AdvancedDecode", spec := "advancedDecode", named := ["partyline/field.octets", "partyline/fcs.half"], apart := false, laid := [("partyline/fcs.half", laid_partyline_fcs_half), ("partyline/field.octets", laid_partyline_field_octets)] }
def AdvancedDecodeSaid : Prop := advancedDecodeRow.holds Tryd.pinned (OpenSpec.ofChange advancedDecodeSpec)

/-- ITS FALSE NEIGHBOUR: 'it returns false'. Refute it at one input. -/
def advancedDecodeWrong : ChangeSpec := { name := "advancedDecode", fn := fun _ => fun
  | [d1, d2, d3] => { results := [.lit (.bool false)], args := [d1, d2, d3] }
  | _ => none }
def AdvancedDecodeWrongFalsely : Prop := advancedDecodeRow.holds Tryd.pinned (OpenSpec.ofChange advancedDecodeWrong)

/-- 'partylinelaw05.AdvancedStuff': WHATEVER THE INPUT: true; the input reads as it did. -/
def advancedStuffSpec : ChangeSpec := { name := "advancedStuff", fn := fun _ => fun
  | [d] => { results := [.lit (.bool true)], args := [d] }
  | _ => none }
def advancedStuffRow : OpenClaim := { program := "ytflooblecbhcoaadoor", sum := "3804a5c5cc6e6d5379ed6c4ecac9dfcc70e7be03b5430db1d5739da6f447fc20", func := "partyline/partylinelaw05.AdvancedStuff", spec := "advancedStuff", named := ["partyline/field.octets", "partyline/fcs.half"], apart := false, laid := [("partyline/fcs.half", laid_partyline_fcs_half), ("partyline/field.octets", laid_partyline_field_octets)] }
def AdvancedStuffSaid : Prop := advancedStuffRow.holds Tryd.pinned (OpenSpec.ofChange advancedStuffSpec)

/-- ITS FALSE NEIGHBOUR: 'it returns false'. Refute it at one input. -/
def advancedStuffWrong : ChangeSpec := { name := "advancedStuff", fn := fun _ => fun
  | [d] => { results := [.lit (.bool false)], args := [d] }
  | _ => none }
def AdvancedStuffWrongFalsely : Prop := advancedStuffRow.holds Tryd.pinned (OpenSpec.ofChange advancedStuffWrong)

/-- 'partylinelaw05.AdvancedBack': WHATEVER THE INPUT: true; the input reads as it did. -/
def advancedBackSpec : ChangeSpec := { name := "advancedBack", fn := fun _ => fun
  | [d1, d2, d3, d4] => { results := [.lit (.bool true)], args := [d1, d2, d3, d4] }
  | _ => none }
def advancedBackRow : OpenClaim := { program := "ytflooblecbhcoaadoor", sum := "3804a5c5cc6e6d5379ed6c4ecac9dfcc70e7be03b5430db1d5739da6f447fc20", func := "partyline/partylinelaw05.AdvancedBack", spec := "advancedBack", named := ["partyline/field.octets", "partyline/fcs.half"], apart := false, laid := [("partyline/fcs.half", laid_partyline_fcs_half), ("partyline/field.octets", laid_partyline_field_octets)] }
def AdvancedBackSaid : Prop := advancedBackRow.holds Tryd.pinned (OpenSpec.ofChange advancedBackSpec)

/-- ITS FALSE NEIGHBOUR: 'it returns false'. Refute it at one input. -/
def advancedBackWrong : ChangeSpec := { name := "advancedBack", fn := fun _ => fun
  | [d1, d2, d3, d4] => { results := [.lit (.bool false)], args := [d1, d2, d3, d4] }
  | _ => none }
def AdvancedBackWrongFalsely : Prop := advancedBackRow.holds Tryd.pinned (OpenSpec.ofChange advancedBackWrong)

/-- 'partylinelaw05.AdvancedTurned': WHATEVER THE INPUT: true; the input reads as it did. -/
def advancedTurnedSpec : ChangeSpec := { name := "advancedTurned", fn := fun _ => fun
  | [d1, d2, d3, d4] => { results := [.lit (.bool true)], args := [d1, d2, d3, d4] }
  | _ => none }
def advancedTurnedRow : OpenClaim := { program := "ytflooblecbhcoaadoor", sum := "3804a5c5cc6e6d5379ed6c4ecac9dfcc70e7be03b5430db1d5739da6f447fc20", func := "partyline/partylinelaw05.AdvancedTurned", spec := "advancedTurned", named := ["partyline/field.octets", "partyline/fcs.half"], apart := false, laid := [("partyline/fcs.half", laid_partyline_fcs_half), ("partyline/field.octets", laid_partyline_field_octets)] }
def AdvancedTurnedSaid : Prop := advancedTurnedRow.holds Tryd.pinned (OpenSpec.ofChange advancedTurnedSpec)

/-- ITS FALSE NEIGHBOUR: 'it returns false'. Refute it at one input. -/
def advancedTurnedWrong : ChangeSpec := { name := "advancedTurned", fn := fun _ => fun
  | [d1, d2, d3, d4] => { results := [.lit (.bool false)], args := [d1, d2, d3, d4] }
  | _ => none }
def AdvancedTurnedWrongFalsely : Prop := advancedTurnedRow.holds Tryd.pinned (OpenSpec.ofChange advancedTurnedWrong)

/-- 'partylinelaw05.AdvancedKnown': WHATEVER THE INPUT: true; the input reads as it did. -/
def advancedKnownSpec : ChangeSpec := { name := "advancedKnown", fn := fun _ => fun
  | [] => { results := [.lit (.bool true)], args := [] }
  | _ => none }
def advancedKnownRow : OpenClaim := { program := "ytflooblecbhcoaadoor", sum := "3804a5c5cc6e6d5379ed6c4ecac9dfcc70e7be03b5430db1d5739da6f447fc20", func := "partyline/partylinelaw05.AdvancedKnown", spec := "advancedKnown", named := ["partyline/field.octets", "partyline/fcs.half"], apart := false, laid := [("partyline/fcs.half", laid_partyline_fcs_half), ("partyline/field.octets", laid_partyline_field_octets)] }
def AdvancedKnownSaid : Prop := advancedKnownRow.holds Tryd.pinned (OpenSpec.ofChange advancedKnownSpec)

/-- ITS FALSE NEIGHBOUR: 'it returns false'. Refute it at one input. -/
def advancedKnownWrong : ChangeSpec := { name := "advancedKnown", fn := fun _ => fun
  | [] => { results := [.lit (.bool false)], args := [] }
  | _ => none }
def AdvancedKnownWrongFalsely : Prop := advancedKnownRow.holds Tryd.pinned (OpenSpec.ofChange advancedKnownWrong)

/- THE SECOND FORM. 'bulk': how many values and letters a reading holds, each counted each time it is reached (what is shared counts as often as it is met; a slice's spare places count too). A statement '..UptoSaid' is the law's where the arguments, and the package variables that the reading takes, are together of bulk at most 1048576: NARROWER than '..Said'. Prove '..Said' where nothing that the law and all that it calls make is longer than what came in: it says more and counts as full. Else prove '..UptoSaid'. A law counts once. -/
mutual
def uptoBulk {H : Type} : DataW H → Nat
  | .lit (.string bytes) => bytes.length + 1
  | .lit _ => 1
  | .nil => 1
  | .ptr d => uptoBulk d + 1
  | .slice elems spare => uptoBulkAll elems + uptoBulkAll spare + 1
  | .agg parts => uptoBulkAll parts + 1
  | .iface _ d => uptoBulk d + 1
  | .map entries => uptoBulkEntries entries + 1
  | .held _ => 1
def uptoBulkAll {H : Type} : List (DataW H) → Nat
  | [] => 0
  | d :: r => uptoBulk d + uptoBulkAll r
def uptoBulkEntries {H : Type} : List (Lit × DataW H) → Nat
  | [] => 0
  | x :: r => uptoBulkEntry x + uptoBulkEntries r
def uptoBulkEntry {H : Type} : Lit × DataW H → Nat
  | (.string bytes, d) => bytes.length + uptoBulk d + 1
  | (_, d) => uptoBulk d + 1
 end
def uptoSmall : (H : Type) → List (DataW H) → Bool := fun _ ds => decide (uptoBulkAll ds ≤ 1048576)
def OpenSpec.upto (s : _root_.Go.ChangeSpec) : _root_.Go.OpenSpec := { _root_.Go.OpenSpec.ofChange s with cond := some uptoSmall }

/-- 'partylinelaw05.AdvancedEncode', WHERE WHAT IT READS IS OF BULK AT MOST 1048576: true; the input reads as it did. -/
def advancedEncodeUptoRow : OpenClaim := { program := "ytflooblecbhcoaadoor", sum := "3804a5c5cc6e6d5379ed6c4ecac9dfcc70e7be03b5430db1d5739da6f447fc20", func := "partyline/partylinelaw05.AdvancedEncode", spec := "advancedEncode", named := ["partyline/field.octets", "partyline/fcs.half"], apart := false, laid := [("partyline/fcs.half", laid_partyline_fcs_half), ("partyline/field.octets", laid_partyline_field_octets)], narrowed := true }
def AdvancedEncodeUptoSaid : Prop := advancedEncodeUptoRow.holds Tryd.pinned (OpenSpec.upto advancedEncodeSpec)

/-- 'partylinelaw05.AdvancedDecode', WHERE WHAT IT READS IS OF BULK AT MOST 1048576: true; the input reads as it did. -/
def advancedDecodeUptoRow : OpenClaim := { program := "ytflooblecbhcoaadoor", sum := "3804a5c5cc6e6d5379ed6c4ecac9dfcc70e7be03b5430db1d5739da6f447fc20", func := "partyline/partylinelaw05.AdvancedDecode", spec := "advancedDecode", named := ["partyline/field.octets", "partyline/fcs.half"], apart := false, laid := [("partyline/fcs.half", laid_partyline_fcs_half), ("partyline/field.octets", laid_partyline_field_octets)], narrowed := true }
def AdvancedDecodeUptoSaid : Prop := advancedDecodeUptoRow.holds Tryd.pinned (OpenSpec.upto advancedDecodeSpec)

/-- 'partylinelaw05.AdvancedStuff', WHERE WHAT IT READS IS OF BULK AT MOST 1048576: true; the input reads as it did. -/
def advancedStuffUptoRow : OpenClaim := { program := "ytflooblecbhcoaadoor", sum := "3804a5c5cc6e6d5379ed6c4ecac9dfcc70e7be03b5430db1d5739da6f447fc20", func := "partyline/partylinelaw05.AdvancedStuff", spec := "advancedStuff", named := ["partyline/field.octets", "partyline/fcs.half"], apart := false, laid := [("partyline/fcs.half", laid_partyline_fcs_half), ("partyline/field.octets", laid_partyline_field_octets)], narrowed := true }
def AdvancedStuffUptoSaid : Prop := advancedStuffUptoRow.holds Tryd.pinned (OpenSpec.upto advancedStuffSpec)

/-- 'partylinelaw05.AdvancedBack', WHERE WHAT IT READS IS OF BULK AT MOST 1048576: true; the input reads as it did. -/
def advancedBackUptoRow : OpenClaim := { program := "ytflooblecbhcoaadoor", sum := "3804a5c5cc6e6d5379ed6c4ecac9dfcc70e7be03b5430db1d5739da6f447fc20", func := "partyline/partylinelaw05.AdvancedBack", spec := "advancedBack", named := ["partyline/field.octets", "partyline/fcs.half"], apart := false, laid := [("partyline/fcs.half", laid_partyline_fcs_half), ("partyline/field.octets", laid_partyline_field_octets)], narrowed := true }
def AdvancedBackUptoSaid : Prop := advancedBackUptoRow.holds Tryd.pinned (OpenSpec.upto advancedBackSpec)

/-- 'partylinelaw05.AdvancedTurned', WHERE WHAT IT READS IS OF BULK AT MOST 1048576: true; the input reads as it did. -/
def advancedTurnedUptoRow : OpenClaim := { program := "ytflooblecbhcoaadoor", sum := "3804a5c5cc6e6d5379ed6c4ecac9dfcc70e7be03b5430db1d5739da6f447fc20", func := "partyline/partylinelaw05.AdvancedTurned", spec := "advancedTurned", named := ["partyline/field.octets", "partyline/fcs.half"], apart := false, laid := [("partyline/fcs.half", laid_partyline_fcs_half), ("partyline/field.octets", laid_partyline_field_octets)], narrowed := true }
def AdvancedTurnedUptoSaid : Prop := advancedTurnedUptoRow.holds Tryd.pinned (OpenSpec.upto advancedTurnedSpec)

/-- 'partylinelaw05.AdvancedKnown', WHERE WHAT IT READS IS OF BULK AT MOST 1048576: true; the input reads as it did. -/
def advancedKnownUptoRow : OpenClaim := { program := "ytflooblecbhcoaadoor", sum := "3804a5c5cc6e6d5379ed6c4ecac9dfcc70e7be03b5430db1d5739da6f447fc20", func := "partyline/partylinelaw05.AdvancedKnown", spec := "advancedKnown", named := ["partyline/field.octets", "partyline/fcs.half"], apart := false, laid := [("partyline/fcs.half", laid_partyline_fcs_half), ("partyline/field.octets", laid_partyline_field_octets)], narrowed := true }
def AdvancedKnownUptoSaid : Prop := advancedKnownUptoRow.holds Tryd.pinned (OpenSpec.upto advancedKnownSpec)

end Rows
end Go.Proofs.YtflooblecbhcoaaDoor
