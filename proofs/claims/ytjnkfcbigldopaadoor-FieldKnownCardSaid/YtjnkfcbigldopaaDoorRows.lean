/-
  NARROWER THAN 'FOR EVERY INPUT', by the rows' own cells (each row's printed sentence says how): FieldPut: laid · FieldGet: laid · FieldKinds: laid · FieldBack: laid · FieldKnown: laid.
  DERIVED. THE GIVEN ROWS OF THIS SEAT. 5 by the template 'for every input the law returns true; each argument reads behind the call as it read before'; 0 by the template 'total and deterministic' (their statements: YtjnkfcbigldopaaDoorTotals.lean).
  GIVEN WITH THE SEED: the statements are not yours to turn. If you find one false, say at which input.
  Laid BY PROGRAM, IN A SANDBOX (cutbox-rows.mjs): the forced cells as the released guide's own fill.sh prints them over the translation 8607d4c9c1198db9… (all of the seat's roots in one cut). By AI agents, Wed Nov 11 2026. No macro, syntax, notation, axiom, sorry.
-/
import Derived.Test.YtjnkfcbigldopaaDoorChecked
import GoSem.Claim
import GoSem.ClaimJoined
import GoSem.ClaimMapViews
import Derived.JoinedTies
import Derived.KernelRfl
namespace Go.Proofs.YtjnkfcbigldopaaDoor
/- THE CELL 'sum', in the pinned program and in every row, IS THE sha256 OF THE DUMP (.gsa) THAT YtjnkfcbigldopaaDoorProg.lean LOADS. Nothing in Lean hashes anything: it is a label: what it is worth is what the hold of that sum in a sandbox is worth. -/
noncomputable def Tryd.pinned : Pinned := { name := "ytjnkfcbigldopaadoor", sum := "8607d4c9c1198db9472618972e8f2312ecbaf163c6a2fbf09a68edf87ed0f782", checked := Tryd.checked }
namespace Rows
def none {H : Type} : Left H := { results := [], args := [] }

/- WHAT THE LISTED PACKAGE-LEVEL VARIABLES READ AS WHEN THE CALL BEGINS. Each datum BY PROGRAM (the guide's laid-datum.mjs) off the statement by which the dump's own 'gosem.cut.vars' lays the variable. In a bare row this is a premise. The card (YtjnkfcbigldopaaDoorCards.lean) ties it to the program's text. -/
def laid_partyline_field_octets {H : Type} : DataW H := .agg [.lit (.int .u8 0), .lit (.int .u8 47), .lit (.int .u8 99), .lit (.int .u8 15), .lit (.int .u8 67), .lit (.int .u8 239), .lit (.int .u8 3), .lit (.int .u8 0), .lit (.int .u8 1), .lit (.int .u8 5), .lit (.int .u8 9)]

/-- 'partylinelaw03.FieldPut': WHATEVER THE INPUT: true; the input reads as it did. -/
def fieldPutSpec : ChangeSpec := { name := "fieldPut", fn := fun _ => fun
  | [d1, d2, d3, d4] => { results := [.lit (.bool true)], args := [d1, d2, d3, d4] }
  | _ => none }
def fieldPutRow : OpenClaim := { program := "ytjnkfcbigldopaadoor", sum := "8607d4c9c1198db9472618972e8f2312ecbaf163c6a2fbf09a68edf87ed0f782", func := "partyline/partylinelaw03.FieldPut", spec := "fieldPut", named := ["partyline/field.octets"], apart := false, laid := [("partyline/field.octets", laid_partyline_field_octets)] }
def FieldPutSaid : Prop := fieldPutRow.holds Tryd.pinned (OpenSpec.ofChange fieldPutSpec)

/-- ITS FALSE NEIGHBOUR: 'it returns false'. Refute it at one input. -/
def fieldPutWrong : ChangeSpec := { name := "fieldPut", fn := fun _ => fun
  | [d1, d2, d3, d4] => { results := [.lit (.bool false)], args := [d1, d2, d3, d4] }
  | _ => none }
def FieldPutWrongFalsely : Prop := fieldPutRow.holds Tryd.pinned (OpenSpec.ofChange fieldPutWrong)

/-- 'partylinelaw03.FieldGet': WHATEVER THE INPUT: true; the input reads as it did. -/
def fieldGetSpec : ChangeSpec := { name := "fieldGet", fn := fun _ => fun
  | [d] => { results := [.lit (.bool true)], args := [d] }
  | _ => none }
def fieldGetRow : OpenClaim := { program := "ytjnkfcbigldopaadoor", sum := "8607d4c9c1198db9472618972e8f2312ecbaf163c6a2fbf09a68edf87ed0f782", func := "partyline/partylinelaw03.FieldGet", spec := "fieldGet", named := ["partyline/field.octets"], apart := false, laid := [("partyline/field.octets", laid_partyline_field_octets)] }
def FieldGetSaid : Prop := fieldGetRow.holds Tryd.pinned (OpenSpec.ofChange fieldGetSpec)

/-- ITS FALSE NEIGHBOUR: 'it returns false'. Refute it at one input. -/
def fieldGetWrong : ChangeSpec := { name := "fieldGet", fn := fun _ => fun
  | [d] => { results := [.lit (.bool false)], args := [d] }
  | _ => none }
def FieldGetWrongFalsely : Prop := fieldGetRow.holds Tryd.pinned (OpenSpec.ofChange fieldGetWrong)

/-- 'partylinelaw03.FieldKinds': WHATEVER THE INPUT: true; the input reads as it did. -/
def fieldKindsSpec : ChangeSpec := { name := "fieldKinds", fn := fun _ => fun
  | [d1, d2] => { results := [.lit (.bool true)], args := [d1, d2] }
  | _ => none }
def fieldKindsRow : OpenClaim := { program := "ytjnkfcbigldopaadoor", sum := "8607d4c9c1198db9472618972e8f2312ecbaf163c6a2fbf09a68edf87ed0f782", func := "partyline/partylinelaw03.FieldKinds", spec := "fieldKinds", named := ["partyline/field.octets"], apart := false, laid := [("partyline/field.octets", laid_partyline_field_octets)] }
def FieldKindsSaid : Prop := fieldKindsRow.holds Tryd.pinned (OpenSpec.ofChange fieldKindsSpec)

/-- ITS FALSE NEIGHBOUR: 'it returns false'. Refute it at one input. -/
def fieldKindsWrong : ChangeSpec := { name := "fieldKinds", fn := fun _ => fun
  | [d1, d2] => { results := [.lit (.bool false)], args := [d1, d2] }
  | _ => none }
def FieldKindsWrongFalsely : Prop := fieldKindsRow.holds Tryd.pinned (OpenSpec.ofChange fieldKindsWrong)

/-- 'partylinelaw03.FieldBack': WHATEVER THE INPUT: true; the input reads as it did. -/
def fieldBackSpec : ChangeSpec := { name := "fieldBack", fn := fun _ => fun
  | [d1, d2, d3, d4, d5] => { results := [.lit (.bool true)], args := [d1, d2, d3, d4, d5] }
  | _ => none }
def fieldBackRow : OpenClaim := { program := "ytjnkfcbigldopaadoor", sum := "8607d4c9c1198db9472618972e8f2312ecbaf163c6a2fbf09a68edf87ed0f782", func := "partyline/partylinelaw03.FieldBack", spec := "fieldBack", named := ["partyline/field.octets"], apart := false, laid := [("partyline/field.octets", laid_partyline_field_octets)] }
def FieldBackSaid : Prop := fieldBackRow.holds Tryd.pinned (OpenSpec.ofChange fieldBackSpec)

/-- ITS FALSE NEIGHBOUR: 'it returns false'. Refute it at one input. -/
def fieldBackWrong : ChangeSpec := { name := "fieldBack", fn := fun _ => fun
  | [d1, d2, d3, d4, d5] => { results := [.lit (.bool false)], args := [d1, d2, d3, d4, d5] }
  | _ => none }
def FieldBackWrongFalsely : Prop := fieldBackRow.holds Tryd.pinned (OpenSpec.ofChange fieldBackWrong)

/-- 'partylinelaw03.FieldKnown': WHATEVER THE INPUT: true; the input reads as it did. -/
def fieldKnownSpec : ChangeSpec := { name := "fieldKnown", fn := fun _ => fun
  | [] => { results := [.lit (.bool true)], args := [] }
  | _ => none }
def fieldKnownRow : OpenClaim := { program := "ytjnkfcbigldopaadoor", sum := "8607d4c9c1198db9472618972e8f2312ecbaf163c6a2fbf09a68edf87ed0f782", func := "partyline/partylinelaw03.FieldKnown", spec := "fieldKnown", named := ["partyline/field.octets"], apart := false, laid := [("partyline/field.octets", laid_partyline_field_octets)] }
def FieldKnownSaid : Prop := fieldKnownRow.holds Tryd.pinned (OpenSpec.ofChange fieldKnownSpec)

/-- ITS FALSE NEIGHBOUR: 'it returns false'. Refute it at one input. -/
def fieldKnownWrong : ChangeSpec := { name := "fieldKnown", fn := fun _ => fun
  | [] => { results := [.lit (.bool false)], args := [] }
  | _ => none }
def FieldKnownWrongFalsely : Prop := fieldKnownRow.holds Tryd.pinned (OpenSpec.ofChange fieldKnownWrong)

/- THE SECOND FORM. 'bulk': how many values and letters a reading holds, each counted each time it is reached (what is shared counts as often as it is met; a slice's spare places count too). A statement '..UptoSaid' is the law's where the arguments, and the package variables that the reading takes, are together of bulk at most 1048576: NARROWER than '..Said'. Prove '..Said' where nothing that the law and all that it calls make is longer than what came in: it says more and counts as full. Else prove '..UptoSaid'. A law counts once. -/
mutual
def uptoBulk {H : Type} : DataW H → Nat
  | .lit (.string bytes) => bytes.length + 1
  | .lit _ => 1
  | .nil => 1
  | .ptr d => uptoBulk d + 1
  | .slice elems spare => uptoBulkAll elems + uptoBulkAll spare + 1
  | .agg parts => uptoBulkAll parts + 1
  | .iface _ d => uptoBulk d + 1
  | .map entries => uptoBulkEntries entries + 1
  | .held _ => 1
def uptoBulkAll {H : Type} : List (DataW H) → Nat
  | [] => 0
  | d :: r => uptoBulk d + uptoBulkAll r
def uptoBulkEntries {H : Type} : List (Lit × DataW H) → Nat
  | [] => 0
  | x :: r => uptoBulkEntry x + uptoBulkEntries r
def uptoBulkEntry {H : Type} : Lit × DataW H → Nat
  | (.string bytes, d) => bytes.length + uptoBulk d + 1
  | (_, d) => uptoBulk d + 1
 end
def uptoSmall : (H : Type) → List (DataW H) → Bool := fun _ ds => decide (uptoBulkAll ds ≤ 1048576)
def OpenSpec.upto (s : _root_.Go.ChangeSpec) : _root_.Go.OpenSpec := { _root_.Go.OpenSpec.ofChange s with cond := some uptoSmall }

/-- 'partylinelaw03.FieldPut', WHERE WHAT IT READS IS OF BULK AT MOST 1048576: true; the input reads as it did. -/
def fieldPutUptoRow : OpenClaim := { program := "ytjnkfcbigldopaadoor", sum := "8607d4c9c1198db9472618972e8f2312ecbaf163c6a2fbf09a68edf87ed0f782", func := "partyline/partylinelaw03.FieldPut", spec := "fieldPut", named := ["partyline/field.octets"], apart := false, laid := [("partyline/field.octets", laid_partyline_field_octets)], narrowed := true }
def FieldPutUptoSaid : Prop := fieldPutUptoRow.holds Tryd.pinned (OpenSpec.upto fieldPutSpec)

/-- 'partylinelaw03.FieldGet', WHERE WHAT IT READS IS OF BULK AT MOST 1048576: true; the input reads as it did. -/
def fieldGetUptoRow : OpenClaim := { program := "ytjnkfcbigldopaadoor", sum := "8607d4c9c1198db9472618972e8f2312ecbaf163c6a2fbf09a68edf87ed0f782", func := "partyline/partylinelaw03.FieldGet", spec := "fieldGet", named := ["partyline/field.octets"], apart := false, laid := [("partyline/field.octets", laid_partyline_field_octets)], narrowed := true }
def FieldGetUptoSaid : Prop := fieldGetUptoRow.holds Tryd.pinned (OpenSpec.upto fieldGetSpec)

/-- 'partylinelaw03.FieldKinds', WHERE WHAT IT READS IS OF BULK AT MOST 1048576: true; the input reads as it did. -/
def fieldKindsUptoRow : OpenClaim := { program := "ytjnkfcbigldopaadoor", sum := "8607d4c9c1198db9472618972e8f2312ecbaf163c6a2fbf09a68edf87ed0f782", func := "partyline/partylinelaw03.FieldKinds", spec := "fieldKinds", named := ["partyline/field.octets"], apart := false, laid := [("partyline/field.octets", laid_partyline_field_octets)], narrowed := true }
def FieldKindsUptoSaid : Prop := fieldKindsUptoRow.holds Tryd.pinned (OpenSpec.upto fieldKindsSpec)

/-- 'partylinelaw03.FieldBack', WHERE WHAT IT READS IS OF BULK AT MOST 1048576: true; the input reads as it did. -/
def fieldBackUptoRow : OpenClaim := { program := "ytjnkfcbigldopaadoor", sum := "8607d4c9c1198db9472618972e8f2312ecbaf163c6a2fbf09a68edf87ed0f782", func := "partyline/partylinelaw03.FieldBack", spec := "fieldBack", named := ["partyline/field.octets"], apart := false, laid := [("partyline/field.octets", laid_partyline_field_octets)], narrowed := true }
def FieldBackUptoSaid : Prop := fieldBackUptoRow.holds Tryd.pinned (OpenSpec.upto fieldBackSpec)

/-- 'partylinelaw03.FieldKnown', WHERE WHAT IT READS IS OF BULK AT MOST 1048576: true; the input reads as it did. -/
def fieldKnownUptoRow : OpenClaim := { program := "ytjnkfcbigldopaadoor", sum := "8607d4c9c1198db9472618972e8f2312ecbaf163c6a2fbf09a68edf87ed0f782", func := "partyline/partylinelaw03.FieldKnown", spec := "fieldKnown", named := ["partyline/field.octets"], apart := false, laid := [("partyline/field.octets", laid_partyline_field_octets)], narrowed := true }
def FieldKnownUptoSaid : Prop := fieldKnownUptoRow.holds Tryd.pinned (OpenSpec.upto fieldKnownSpec)

end Rows
end Go.Proofs.YtjnkfcbigldopaaDoor
