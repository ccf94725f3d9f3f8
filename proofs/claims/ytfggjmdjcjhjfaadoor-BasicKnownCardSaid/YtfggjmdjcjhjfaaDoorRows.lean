/-
  NARROWER THAN 'FOR EVERY INPUT', by the rows' own cells (each row's printed sentence says how): BasicEncodes: laid · BasicDecodes: laid · BasicBack: laid · BasicTurned: laid · BasicKnown: laid.
  DERIVED. THE GIVEN ROWS OF THIS SEAT. 5 by the template 'for every input the law returns true; each argument reads behind the call as it read before'; 0 by the template 'total and deterministic' (their statements: YtfggjmdjcjhjfaaDoorTotals.lean).
  GIVEN WITH THE SEED: the statements are not yours to turn. If you find one false, say at which input.
  Laid BY PROGRAM, IN A SANDBOX (cutbox-rows.mjs): the forced cells as the released guide's own fill.sh prints them over the translation 75178ac0fa7e0352… (all of the seat's roots in one cut). By AI agents, Wed Nov 11 2026. No macro, syntax, notation, axiom, sorry.
-/
import Derived.Test.YtfggjmdjcjhjfaaDoorChecked
import GoSem.Claim
import GoSem.ClaimJoined
import GoSem.ClaimMapViews
import Derived.JoinedTies
import Derived.KernelRfl
namespace Go.Proofs.YtfggjmdjcjhjfaaDoor
/- THE CELL 'sum', in the pinned program and in every row, IS THE sha256 OF THE DUMP (.gsa) THAT YtfggjmdjcjhjfaaDoorProg.lean LOADS. Nothing in Lean hashes anything: it is a label: what it is worth is what the hold of that sum in a sandbox is worth. -/
noncomputable def Tryd.pinned : Pinned := { name := "ytfggjmdjcjhjfaadoor", sum := "75178ac0fa7e0352adc06d6ac2d5ea0ea308b824d3e7af3381d3df0942854e52", checked := Tryd.checked }
namespace Rows
def none {H : Type} : Left H := { results := [], args := [] }

/- WHAT THE LISTED PACKAGE-LEVEL VARIABLES READ AS WHEN THE CALL BEGINS. Each datum BY PROGRAM (the guide's laid-datum.mjs) off the statement by which the dump's own 'gosem.cut.vars' lays the variable. In a bare row this is a premise. The card (YtfggjmdjcjhjfaaDoorCards.lean) ties it to the program's text. -/
def laid_partyline_fcs_half {H : Type} : DataW H := .agg [.lit (.int .u8 0), .lit (.int .u8 28), .lit (.int .u8 56), .lit (.int .u8 36), .lit (.int .u8 112), .lit (.int .u8 108), .lit (.int .u8 72), .lit (.int .u8 84), .lit (.int .u8 224), .lit (.int .u8 252), .lit (.int .u8 216), .lit (.int .u8 196), .lit (.int .u8 144), .lit (.int .u8 140), .lit (.int .u8 168), .lit (.int .u8 180)]
def laid_partyline_field_octets {H : Type} : DataW H := .agg [.lit (.int .u8 0), .lit (.int .u8 47), .lit (.int .u8 99), .lit (.int .u8 15), .lit (.int .u8 67), .lit (.int .u8 239), .lit (.int .u8 3), .lit (.int .u8 0), .lit (.int .u8 1), .lit (.int .u8 5), .lit (.int .u8 9)]

/-- 'partylinelaw04.BasicEncodes': WHATEVER THE INPUT: true; the input reads as it did. -/
def basicEncodesSpec : ChangeSpec := { name := "basicEncodes", fn := fun _ => fun
  | [d1, d2, d3] => { results := [.lit (.bool true)], args := [d1, d2, d3] }
  | _ => none }
def basicEncodesRow : OpenClaim := { program := "ytfggjmdjcjhjfaadoor", sum := "75178ac0fa7e0352adc06d6ac2d5ea0ea308b824d3e7af3381d3df0942854e52", func := "partyline/partylinelaw04.BasicEncodes", spec := "basicEncodes", unfollowed := true, recurses := true, named := ["partyline/field.octets", "partyline/fcs.half"], apart := false, laid := [("partyline/fcs.half", laid_partyline_fcs_half), ("partyline/field.octets", laid_partyline_field_octets)] }
def BasicEncodesSaid : Prop := basicEncodesRow.holds Tryd.pinned (OpenSpec.ofChange basicEncodesSpec)

/-- ITS FALSE NEIGHBOUR: 'it returns false'. Refute it at one input. -/
def basicEncodesWrong : ChangeSpec := { name := "basicEncodes", fn := fun _ => fun
  | [d1, d2, d3] => { results := [.lit (.bool false)], args := [d1, d2, d3] }
  | _ => none }
def BasicEncodesWrongFalsely : Prop := basicEncodesRow.holds Tryd.pinned (OpenSpec.ofChange basicEncodesWrong)

/-- 'partylinelaw04.BasicDecodes': WHATEVER THE INPUT: true; the input reads as it did. -/
def basicDecodesSpec : ChangeSpec := { name := "basicDecodes", fn := fun _ => fun
  | [d1, d2, d3] => { results := [.lit (.bool true)], args := [d1, d2, d3] }
  | _ => none }
def basicDecodesRow : OpenClaim := { program := "ytfggjmdjcjhjfaadoor", sum := "75178ac0fa7e0352adc06d6ac2d5ea0ea308b824d3e7af3381d3df0942854e52", func := "partyline/partylinelaw04.BasicDecodes", spec := "basicDecodes", unfollowed := true, recurses := true, named := ["partyline/field.octets", "partyline/fcs.half"], apart := false, laid := [("partyline/fcs.half", laid_partyline_fcs_half), ("partyline/field.octets", laid_partyline_field_octets)] }
def BasicDecodesSaid : Prop := basicDecodesRow.holds Tryd.pinned (OpenSpec.ofChange basicDecodesSpec)

/-- ITS FALSE NEIGHBOUR: 'it returns false'. Refute it at one input. -/
def basicDecodesWrong : ChangeSpec := { name := "basicDecodes", fn := fun _ => fun
  | [d1, d2, d3] => { results := [.lit (.bool false)], args := [d1, d2, d3] }
  | _ => none }
def BasicDecodesWrongFalsely : Prop := basicDecodesRow.holds Tryd.pinned (OpenSpec.ofChange basicDecodesWrong)

/-- 'partylinelaw04.BasicBack': WHATEVER THE INPUT: true; the input reads as it did. -/
def basicBackSpec : ChangeSpec := { name := "basicBack", fn := fun _ => fun
  | [d1, d2, d3, d4] => { results := [.lit (.bool true)], args := [d1, d2, d3, d4] }
  | _ => none }
def basicBackRow : OpenClaim := { program := "ytfggjmdjcjhjfaadoor", sum := "75178ac0fa7e0352adc06d6ac2d5ea0ea308b824d3e7af3381d3df0942854e52", func := "partyline/partylinelaw04.BasicBack", spec := "basicBack", unfollowed := true, recurses := true, named := ["partyline/field.octets", "partyline/fcs.half"], apart := false, laid := [("partyline/fcs.half", laid_partyline_fcs_half), ("partyline/field.octets", laid_partyline_field_octets)] }
def BasicBackSaid : Prop := basicBackRow.holds Tryd.pinned (OpenSpec.ofChange basicBackSpec)

/-- ITS FALSE NEIGHBOUR: 'it returns false'. Refute it at one input. -/
def basicBackWrong : ChangeSpec := { name := "basicBack", fn := fun _ => fun
  | [d1, d2, d3, d4] => { results := [.lit (.bool false)], args := [d1, d2, d3, d4] }
  | _ => none }
def BasicBackWrongFalsely : Prop := basicBackRow.holds Tryd.pinned (OpenSpec.ofChange basicBackWrong)

/-- 'partylinelaw04.BasicTurned': WHATEVER THE INPUT: true; the input reads as it did. -/
def basicTurnedSpec : ChangeSpec := { name := "basicTurned", fn := fun _ => fun
  | [d1, d2, d3, d4, d5, d6] => { results := [.lit (.bool true)], args := [d1, d2, d3, d4, d5, d6] }
  | _ => none }
def basicTurnedRow : OpenClaim := { program := "ytfggjmdjcjhjfaadoor", sum := "75178ac0fa7e0352adc06d6ac2d5ea0ea308b824d3e7af3381d3df0942854e52", func := "partyline/partylinelaw04.BasicTurned", spec := "basicTurned", unfollowed := true, recurses := true, named := ["partyline/field.octets", "partyline/fcs.half"], apart := false, laid := [("partyline/fcs.half", laid_partyline_fcs_half), ("partyline/field.octets", laid_partyline_field_octets)] }
def BasicTurnedSaid : Prop := basicTurnedRow.holds Tryd.pinned (OpenSpec.ofChange basicTurnedSpec)

/-- ITS FALSE NEIGHBOUR: 'it returns false'. Refute it at one input. -/
def basicTurnedWrong : ChangeSpec := { name := "basicTurned", fn := fun _ => fun
  | [d1, d2, d3, d4, d5, d6] => { results := [.lit (.bool false)], args := [d1, d2, d3, d4, d5, d6] }
  | _ => none }
def BasicTurnedWrongFalsely : Prop := basicTurnedRow.holds Tryd.pinned (OpenSpec.ofChange basicTurnedWrong)

/-- 'partylinelaw04.BasicKnown': WHATEVER THE INPUT: true; the input reads as it did. -/
def basicKnownSpec : ChangeSpec := { name := "basicKnown", fn := fun _ => fun
  | [] => { results := [.lit (.bool true)], args := [] }
  | _ => none }
def basicKnownRow : OpenClaim := { program := "ytfggjmdjcjhjfaadoor", sum := "75178ac0fa7e0352adc06d6ac2d5ea0ea308b824d3e7af3381d3df0942854e52", func := "partyline/partylinelaw04.BasicKnown", spec := "basicKnown", unfollowed := true, recurses := true, named := ["partyline/field.octets", "partyline/fcs.half"], apart := false, laid := [("partyline/fcs.half", laid_partyline_fcs_half), ("partyline/field.octets", laid_partyline_field_octets)] }
def BasicKnownSaid : Prop := basicKnownRow.holds Tryd.pinned (OpenSpec.ofChange basicKnownSpec)

/-- ITS FALSE NEIGHBOUR: 'it returns false'. Refute it at one input. -/
def basicKnownWrong : ChangeSpec := { name := "basicKnown", fn := fun _ => fun
  | [] => { results := [.lit (.bool false)], args := [] }
  | _ => none }
def BasicKnownWrongFalsely : Prop := basicKnownRow.holds Tryd.pinned (OpenSpec.ofChange basicKnownWrong)

/- THE SECOND FORM. 'bulk': how many values and letters a reading holds, each counted each time it is reached (what is shared counts as often as it is met; a slice's spare places count too). A statement '..UptoSaid' is the law's where the arguments, and the package variables that the reading takes, are together of bulk at most 1048576: NARROWER than '..Said'. Prove '..Said' where nothing that the law and all that it calls make is longer than what came in: it says more and counts as full. Else prove '..UptoSaid'. A law counts once. -/
mutual
def uptoBulk {H : Type} : DataW H → Nat
  | .lit (.string bytes) => bytes.length + 1
  | .lit _ => 1
  | .nil => 1
  | .ptr d => uptoBulk d + 1
  | .slice elems spare => uptoBulkAll elems + uptoBulkAll spare + 1
  | .agg parts => uptoBulkAll parts + 1
  | .iface _ d => uptoBulk d + 1
  | .map entries => uptoBulkEntries entries + 1
  | .held _ => 1
def uptoBulkAll {H : Type} : List (DataW H) → Nat
  | [] => 0
  | d :: r => uptoBulk d + uptoBulkAll r
def uptoBulkEntries {H : Type} : List (Lit × DataW H) → Nat
  | [] => 0
  | x :: r => uptoBulkEntry x + uptoBulkEntries r
def uptoBulkEntry {H : Type} : Lit × DataW H → Nat
  | (.string bytes, d) => bytes.length + uptoBulk d + 1
  | (_, d) => uptoBulk d + 1
 end
def uptoSmall : (H : Type) → List (DataW H) → Bool := fun _ ds => decide (uptoBulkAll ds ≤ 1048576)
def OpenSpec.upto (s : _root_.Go.ChangeSpec) : _root_.Go.OpenSpec := { _root_.Go.OpenSpec.ofChange s with cond := some uptoSmall }

/-- 'partylinelaw04.BasicEncodes', WHERE WHAT IT READS IS OF BULK AT MOST 1048576: true; the input reads as it did. -/
def basicEncodesUptoRow : OpenClaim := { program := "ytfggjmdjcjhjfaadoor", sum := "75178ac0fa7e0352adc06d6ac2d5ea0ea308b824d3e7af3381d3df0942854e52", func := "partyline/partylinelaw04.BasicEncodes", spec := "basicEncodes", unfollowed := true, recurses := true, named := ["partyline/field.octets", "partyline/fcs.half"], apart := false, laid := [("partyline/fcs.half", laid_partyline_fcs_half), ("partyline/field.octets", laid_partyline_field_octets)], narrowed := true }
def BasicEncodesUptoSaid : Prop := basicEncodesUptoRow.holds Tryd.pinned (OpenSpec.upto basicEncodesSpec)

/-- 'partylinelaw04.BasicDecodes', WHERE WHAT IT READS IS OF BULK AT MOST 1048576: true; the input reads as it did. -/
def basicDecodesUptoRow : OpenClaim := { program := "ytfggjmdjcjhjfaadoor", sum := "75178ac0fa7e0352adc06d6ac2d5ea0ea308b824d3e7af3381d3df0942854e52", func := "partyline/partylinelaw04.BasicDecodes", spec := "basicDecodes", unfollowed := true, recurses := true, named := ["partyline/field.octets", "partyline/fcs.half"], apart := false, laid := [("partyline/fcs.half", laid_partyline_fcs_half), ("partyline/field.octets", laid_partyline_field_octets)], narrowed := true }
def BasicDecodesUptoSaid : Prop := basicDecodesUptoRow.holds Tryd.pinned (OpenSpec.upto basicDecodesSpec)

/-- 'partylinelaw04.BasicBack', WHERE WHAT IT READS IS OF BULK AT MOST 1048576: true; the input reads as it did. -/
def basicBackUptoRow : OpenClaim := { program := "ytfggjmdjcjhjfaadoor", sum := "75178ac0fa7e0352adc06d6ac2d5ea0ea308b824d3e7af3381d3df0942854e52", func := "partyline/partylinelaw04.BasicBack", spec := "basicBack", unfollowed := true, recurses := true, named := ["partyline/field.octets", "partyline/fcs.half"], apart := false, laid := [("partyline/fcs.half", laid_partyline_fcs_half), ("partyline/field.octets", laid_partyline_field_octets)], narrowed := true }
def BasicBackUptoSaid : Prop := basicBackUptoRow.holds Tryd.pinned (OpenSpec.upto basicBackSpec)

/-- 'partylinelaw04.BasicTurned', WHERE WHAT IT READS IS OF BULK AT MOST 1048576: true; the input reads as it did. -/
def basicTurnedUptoRow : OpenClaim := { program := "ytfggjmdjcjhjfaadoor", sum := "75178ac0fa7e0352adc06d6ac2d5ea0ea308b824d3e7af3381d3df0942854e52", func := "partyline/partylinelaw04.BasicTurned", spec := "basicTurned", unfollowed := true, recurses := true, named := ["partyline/field.octets", "partyline/fcs.half"], apart := false, laid := [("partyline/fcs.half", laid_partyline_fcs_half), ("partyline/field.octets", laid_partyline_field_octets)], narrowed := true }
def BasicTurnedUptoSaid : Prop := basicTurnedUptoRow.holds Tryd.pinned (OpenSpec.upto basicTurnedSpec)

/-- 'partylinelaw04.BasicKnown', WHERE WHAT IT READS IS OF BULK AT MOST 1048576: true; the input reads as it did. -/
def basicKnownUptoRow : OpenClaim := { program := "ytfggjmdjcjhjfaadoor", sum := "75178ac0fa7e0352adc06d6ac2d5ea0ea308b824d3e7af3381d3df0942854e52", func := "partyline/partylinelaw04.BasicKnown", spec := "basicKnown", unfollowed := true, recurses := true, named := ["partyline/field.octets", "partyline/fcs.half"], apart := false, laid := [("partyline/fcs.half", laid_partyline_fcs_half), ("partyline/field.octets", laid_partyline_field_octets)], narrowed := true }
def BasicKnownUptoSaid : Prop := basicKnownUptoRow.holds Tryd.pinned (OpenSpec.upto basicKnownSpec)

end Rows
end Go.Proofs.YtfggjmdjcjhjfaaDoor
