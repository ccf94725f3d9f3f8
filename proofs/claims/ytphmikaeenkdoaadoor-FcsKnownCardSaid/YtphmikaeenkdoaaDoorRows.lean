/-
  NARROWER THAN 'FOR EVERY INPUT', by the rows' own cells (each row's printed sentence says how): FcsStep: laid · FcsSums: laid · FcsMends: laid · FcsGood: laid · FcsNear: laid · FcsBits: laid · FcsKnown: laid.
  DERIVED. THE GIVEN ROWS OF THIS SEAT. 7 by the template 'for every input the law returns true; each argument reads behind the call as it read before'; 0 by the template 'total and deterministic' (their statements: YtphmikaeenkdoaaDoorTotals.lean).
  GIVEN WITH THE SEED: the statements are not yours to turn. If you find one false, say at which input.
  Laid BY PROGRAM, IN A SANDBOX (cutbox-rows.mjs): the forced cells as the released guide's own fill.sh prints them over the translation 93357e31c01ebd0a… (all of the seat's roots in one cut). By AI agents, Wed Nov 11 2026. No macro, syntax, notation, axiom, sorry.
-/
import Derived.Test.YtphmikaeenkdoaaDoorChecked
import GoSem.Claim
import GoSem.ClaimJoined
import GoSem.ClaimMapViews
import Derived.JoinedTies
import Derived.KernelRfl
namespace Go.Proofs.YtphmikaeenkdoaaDoor
/- THE CELL 'sum', in the pinned program and in every row, IS THE sha256 OF THE DUMP (.gsa) THAT YtphmikaeenkdoaaDoorProg.lean LOADS. Nothing in Lean hashes anything: it is a label: what it is worth is what the hold of that sum in a sandbox is worth. -/
noncomputable def Tryd.pinned : Pinned := { name := "ytphmikaeenkdoaadoor", sum := "93357e31c01ebd0af2bd05ae3b30567fabbd7c9b9c7d8f8876a00ec001c7ae69", checked := Tryd.checked }
namespace Rows
def none {H : Type} : Left H := { results := [], args := [] }

/- WHAT THE LISTED PACKAGE-LEVEL VARIABLES READ AS WHEN THE CALL BEGINS. Each datum BY PROGRAM (the guide's laid-datum.mjs) off the statement by which the dump's own 'gosem.cut.vars' lays the variable. In a bare row this is a premise. The card (YtphmikaeenkdoaaDoorCards.lean) ties it to the program's text. -/
def laid_partyline_fcs_half {H : Type} : DataW H := .agg [.lit (.int .u8 0), .lit (.int .u8 28), .lit (.int .u8 56), .lit (.int .u8 36), .lit (.int .u8 112), .lit (.int .u8 108), .lit (.int .u8 72), .lit (.int .u8 84), .lit (.int .u8 224), .lit (.int .u8 252), .lit (.int .u8 216), .lit (.int .u8 196), .lit (.int .u8 144), .lit (.int .u8 140), .lit (.int .u8 168), .lit (.int .u8 180)]

/-- 'partylinelaw01.FcsStep': WHATEVER THE INPUT: true; the input reads as it did. -/
def fcsStepSpec : ChangeSpec := { name := "fcsStep", fn := fun _ => fun
  | [d1, d2] => { results := [.lit (.bool true)], args := [d1, d2] }
  | _ => none }
def fcsStepRow : OpenClaim := { program := "ytphmikaeenkdoaadoor", sum := "93357e31c01ebd0af2bd05ae3b30567fabbd7c9b9c7d8f8876a00ec001c7ae69", func := "partyline/partylinelaw01.FcsStep", spec := "fcsStep", named := ["partyline/fcs.half"], apart := false, laid := [("partyline/fcs.half", laid_partyline_fcs_half)] }
def FcsStepSaid : Prop := fcsStepRow.holds Tryd.pinned (OpenSpec.ofChange fcsStepSpec)

/-- ITS FALSE NEIGHBOUR: 'it returns false'. Refute it at one input. -/
def fcsStepWrong : ChangeSpec := { name := "fcsStep", fn := fun _ => fun
  | [d1, d2] => { results := [.lit (.bool false)], args := [d1, d2] }
  | _ => none }
def FcsStepWrongFalsely : Prop := fcsStepRow.holds Tryd.pinned (OpenSpec.ofChange fcsStepWrong)

/-- 'partylinelaw01.FcsSums': WHATEVER THE INPUT: true; the input reads as it did. -/
def fcsSumsSpec : ChangeSpec := { name := "fcsSums", fn := fun _ => fun
  | [d] => { results := [.lit (.bool true)], args := [d] }
  | _ => none }
def fcsSumsRow : OpenClaim := { program := "ytphmikaeenkdoaadoor", sum := "93357e31c01ebd0af2bd05ae3b30567fabbd7c9b9c7d8f8876a00ec001c7ae69", func := "partyline/partylinelaw01.FcsSums", spec := "fcsSums", named := ["partyline/fcs.half"], apart := false, laid := [("partyline/fcs.half", laid_partyline_fcs_half)] }
def FcsSumsSaid : Prop := fcsSumsRow.holds Tryd.pinned (OpenSpec.ofChange fcsSumsSpec)

/-- ITS FALSE NEIGHBOUR: 'it returns false'. Refute it at one input. -/
def fcsSumsWrong : ChangeSpec := { name := "fcsSums", fn := fun _ => fun
  | [d] => { results := [.lit (.bool false)], args := [d] }
  | _ => none }
def FcsSumsWrongFalsely : Prop := fcsSumsRow.holds Tryd.pinned (OpenSpec.ofChange fcsSumsWrong)

/-- 'partylinelaw01.FcsMends': WHATEVER THE INPUT: true; the input reads as it did. -/
def fcsMendsSpec : ChangeSpec := { name := "fcsMends", fn := fun _ => fun
  | [d1, d2] => { results := [.lit (.bool true)], args := [d1, d2] }
  | _ => none }
def fcsMendsRow : OpenClaim := { program := "ytphmikaeenkdoaadoor", sum := "93357e31c01ebd0af2bd05ae3b30567fabbd7c9b9c7d8f8876a00ec001c7ae69", func := "partyline/partylinelaw01.FcsMends", spec := "fcsMends", named := ["partyline/fcs.half"], apart := false, laid := [("partyline/fcs.half", laid_partyline_fcs_half)] }
def FcsMendsSaid : Prop := fcsMendsRow.holds Tryd.pinned (OpenSpec.ofChange fcsMendsSpec)

/-- ITS FALSE NEIGHBOUR: 'it returns false'. Refute it at one input. -/
def fcsMendsWrong : ChangeSpec := { name := "fcsMends", fn := fun _ => fun
  | [d1, d2] => { results := [.lit (.bool false)], args := [d1, d2] }
  | _ => none }
def FcsMendsWrongFalsely : Prop := fcsMendsRow.holds Tryd.pinned (OpenSpec.ofChange fcsMendsWrong)

/-- 'partylinelaw01.FcsGood': WHATEVER THE INPUT: true; the input reads as it did. -/
def fcsGoodSpec : ChangeSpec := { name := "fcsGood", fn := fun _ => fun
  | [d1, d2, d3] => { results := [.lit (.bool true)], args := [d1, d2, d3] }
  | _ => none }
def fcsGoodRow : OpenClaim := { program := "ytphmikaeenkdoaadoor", sum := "93357e31c01ebd0af2bd05ae3b30567fabbd7c9b9c7d8f8876a00ec001c7ae69", func := "partyline/partylinelaw01.FcsGood", spec := "fcsGood", named := ["partyline/fcs.half"], apart := false, laid := [("partyline/fcs.half", laid_partyline_fcs_half)] }
def FcsGoodSaid : Prop := fcsGoodRow.holds Tryd.pinned (OpenSpec.ofChange fcsGoodSpec)

/-- ITS FALSE NEIGHBOUR: 'it returns false'. Refute it at one input. -/
def fcsGoodWrong : ChangeSpec := { name := "fcsGood", fn := fun _ => fun
  | [d1, d2, d3] => { results := [.lit (.bool false)], args := [d1, d2, d3] }
  | _ => none }
def FcsGoodWrongFalsely : Prop := fcsGoodRow.holds Tryd.pinned (OpenSpec.ofChange fcsGoodWrong)

/-- 'partylinelaw01.FcsNear': WHATEVER THE INPUT: true; the input reads as it did. -/
def fcsNearSpec : ChangeSpec := { name := "fcsNear", fn := fun _ => fun
  | [d1, d2, d3, d4, d5, d6] => { results := [.lit (.bool true)], args := [d1, d2, d3, d4, d5, d6] }
  | _ => none }
def fcsNearRow : OpenClaim := { program := "ytphmikaeenkdoaadoor", sum := "93357e31c01ebd0af2bd05ae3b30567fabbd7c9b9c7d8f8876a00ec001c7ae69", func := "partyline/partylinelaw01.FcsNear", spec := "fcsNear", named := ["partyline/fcs.half"], apart := false, laid := [("partyline/fcs.half", laid_partyline_fcs_half)] }
def FcsNearSaid : Prop := fcsNearRow.holds Tryd.pinned (OpenSpec.ofChange fcsNearSpec)

/-- ITS FALSE NEIGHBOUR: 'it returns false'. Refute it at one input. -/
def fcsNearWrong : ChangeSpec := { name := "fcsNear", fn := fun _ => fun
  | [d1, d2, d3, d4, d5, d6] => { results := [.lit (.bool false)], args := [d1, d2, d3, d4, d5, d6] }
  | _ => none }
def FcsNearWrongFalsely : Prop := fcsNearRow.holds Tryd.pinned (OpenSpec.ofChange fcsNearWrong)

/-- 'partylinelaw01.FcsBits': WHATEVER THE INPUT: true; the input reads as it did. -/
def fcsBitsSpec : ChangeSpec := { name := "fcsBits", fn := fun _ => fun
  | [d1, d2, d3, d4] => { results := [.lit (.bool true)], args := [d1, d2, d3, d4] }
  | _ => none }
def fcsBitsRow : OpenClaim := { program := "ytphmikaeenkdoaadoor", sum := "93357e31c01ebd0af2bd05ae3b30567fabbd7c9b9c7d8f8876a00ec001c7ae69", func := "partyline/partylinelaw01.FcsBits", spec := "fcsBits", named := ["partyline/fcs.half"], apart := false, laid := [("partyline/fcs.half", laid_partyline_fcs_half)] }
def FcsBitsSaid : Prop := fcsBitsRow.holds Tryd.pinned (OpenSpec.ofChange fcsBitsSpec)

/-- ITS FALSE NEIGHBOUR: 'it returns false'. Refute it at one input. -/
def fcsBitsWrong : ChangeSpec := { name := "fcsBits", fn := fun _ => fun
  | [d1, d2, d3, d4] => { results := [.lit (.bool false)], args := [d1, d2, d3, d4] }
  | _ => none }
def FcsBitsWrongFalsely : Prop := fcsBitsRow.holds Tryd.pinned (OpenSpec.ofChange fcsBitsWrong)

/-- 'partylinelaw01.FcsKnown': WHATEVER THE INPUT: true; the input reads as it did. -/
def fcsKnownSpec : ChangeSpec := { name := "fcsKnown", fn := fun _ => fun
  | [] => { results := [.lit (.bool true)], args := [] }
  | _ => none }
def fcsKnownRow : OpenClaim := { program := "ytphmikaeenkdoaadoor", sum := "93357e31c01ebd0af2bd05ae3b30567fabbd7c9b9c7d8f8876a00ec001c7ae69", func := "partyline/partylinelaw01.FcsKnown", spec := "fcsKnown", named := ["partyline/fcs.half"], apart := false, laid := [("partyline/fcs.half", laid_partyline_fcs_half)] }
def FcsKnownSaid : Prop := fcsKnownRow.holds Tryd.pinned (OpenSpec.ofChange fcsKnownSpec)

/-- ITS FALSE NEIGHBOUR: 'it returns false'. Refute it at one input. -/
def fcsKnownWrong : ChangeSpec := { name := "fcsKnown", fn := fun _ => fun
  | [] => { results := [.lit (.bool false)], args := [] }
  | _ => none }
def FcsKnownWrongFalsely : Prop := fcsKnownRow.holds Tryd.pinned (OpenSpec.ofChange fcsKnownWrong)

/- THE SECOND FORM. 'bulk': how many values and letters a reading holds, each counted each time it is reached (what is shared counts as often as it is met; a slice's spare places count too). A statement '..UptoSaid' is the law's where the arguments, and the package variables that the reading takes, are together of bulk at most 1048576: NARROWER than '..Said'. Prove '..Said' where nothing that the law and all that it calls make is longer than what came in: it says more and counts as full. Else prove '..UptoSaid'. A law counts once. -/
mutual
def uptoBulk {H : Type} : DataW H → Nat
  | .lit (.string bytes) => bytes.length + 1
  | .lit _ => 1
  | .nil => 1
  | .ptr d => uptoBulk d + 1
  | .slice elems spare => uptoBulkAll elems + uptoBulkAll spare + 1
  | .agg parts => uptoBulkAll parts + 1
  | .iface _ d => uptoBulk d + 1
  | .map entries => uptoBulkEntries entries + 1
  | .held _ => 1
def uptoBulkAll {H : Type} : List (DataW H) → Nat
  | [] => 0
  | d :: r => uptoBulk d + uptoBulkAll r
def uptoBulkEntries {H : Type} : List (Lit × DataW H) → Nat
  | [] => 0
  | x :: r => uptoBulkEntry x + uptoBulkEntries r
def uptoBulkEntry {H : Type} : Lit × DataW H → Nat
  | (.string bytes, d) => bytes.length + uptoBulk d + 1
  | (_, d) => uptoBulk d + 1
 end
def uptoSmall : (H : Type) → List (DataW H) → Bool := fun _ ds => decide (uptoBulkAll ds ≤ 1048576)
def OpenSpec.upto (s : _root_.Go.ChangeSpec) : _root_.Go.OpenSpec := { _root_.Go.OpenSpec.ofChange s with cond := some uptoSmall }

/-- 'partylinelaw01.FcsStep', WHERE WHAT IT READS IS OF BULK AT MOST 1048576: true; the input reads as it did. -/
def fcsStepUptoRow : OpenClaim := { program := "ytphmikaeenkdoaadoor", sum := "93357e31c01ebd0af2bd05ae3b30567fabbd7c9b9c7d8f8876a00ec001c7ae69", func := "partyline/partylinelaw01.FcsStep", spec := "fcsStep", named := ["partyline/fcs.half"], apart := false, laid := [("partyline/fcs.half", laid_partyline_fcs_half)], narrowed := true }
def FcsStepUptoSaid : Prop := fcsStepUptoRow.holds Tryd.pinned (OpenSpec.upto fcsStepSpec)

/-- 'partylinelaw01.FcsSums', WHERE WHAT IT READS IS OF BULK AT MOST 1048576: true; the input reads as it did. -/
def fcsSumsUptoRow : OpenClaim := { program := "ytphmikaeenkdoaadoor", sum := "93357e31c01ebd0af2bd05ae3b30567fabbd7c9b9c7d8f8876a00ec001c7ae69", func := "partyline/partylinelaw01.FcsSums", spec := "fcsSums", named := ["partyline/fcs.half"], apart := false, laid := [("partyline/fcs.half", laid_partyline_fcs_half)], narrowed := true }
def FcsSumsUptoSaid : Prop := fcsSumsUptoRow.holds Tryd.pinned (OpenSpec.upto fcsSumsSpec)

/-- 'partylinelaw01.FcsMends', WHERE WHAT IT READS IS OF BULK AT MOST 1048576: true; the input reads as it did. -/
def fcsMendsUptoRow : OpenClaim := { program := "ytphmikaeenkdoaadoor", sum := "93357e31c01ebd0af2bd05ae3b30567fabbd7c9b9c7d8f8876a00ec001c7ae69", func := "partyline/partylinelaw01.FcsMends", spec := "fcsMends", named := ["partyline/fcs.half"], apart := false, laid := [("partyline/fcs.half", laid_partyline_fcs_half)], narrowed := true }
def FcsMendsUptoSaid : Prop := fcsMendsUptoRow.holds Tryd.pinned (OpenSpec.upto fcsMendsSpec)

/-- 'partylinelaw01.FcsGood', WHERE WHAT IT READS IS OF BULK AT MOST 1048576: true; the input reads as it did. -/
def fcsGoodUptoRow : OpenClaim := { program := "ytphmikaeenkdoaadoor", sum := "93357e31c01ebd0af2bd05ae3b30567fabbd7c9b9c7d8f8876a00ec001c7ae69", func := "partyline/partylinelaw01.FcsGood", spec := "fcsGood", named := ["partyline/fcs.half"], apart := false, laid := [("partyline/fcs.half", laid_partyline_fcs_half)], narrowed := true }
def FcsGoodUptoSaid : Prop := fcsGoodUptoRow.holds Tryd.pinned (OpenSpec.upto fcsGoodSpec)

/-- 'partylinelaw01.FcsNear', WHERE WHAT IT READS IS OF BULK AT MOST 1048576: true; the input reads as it did. -/
def fcsNearUptoRow : OpenClaim := { program := "ytphmikaeenkdoaadoor", sum := "93357e31c01ebd0af2bd05ae3b30567fabbd7c9b9c7d8f8876a00ec001c7ae69", func := "partyline/partylinelaw01.FcsNear", spec := "fcsNear", named := ["partyline/fcs.half"], apart := false, laid := [("partyline/fcs.half", laid_partyline_fcs_half)], narrowed := true }
def FcsNearUptoSaid : Prop := fcsNearUptoRow.holds Tryd.pinned (OpenSpec.upto fcsNearSpec)

/-- 'partylinelaw01.FcsBits', WHERE WHAT IT READS IS OF BULK AT MOST 1048576: true; the input reads as it did. -/
def fcsBitsUptoRow : OpenClaim := { program := "ytphmikaeenkdoaadoor", sum := "93357e31c01ebd0af2bd05ae3b30567fabbd7c9b9c7d8f8876a00ec001c7ae69", func := "partyline/partylinelaw01.FcsBits", spec := "fcsBits", named := ["partyline/fcs.half"], apart := false, laid := [("partyline/fcs.half", laid_partyline_fcs_half)], narrowed := true }
def FcsBitsUptoSaid : Prop := fcsBitsUptoRow.holds Tryd.pinned (OpenSpec.upto fcsBitsSpec)

/-- 'partylinelaw01.FcsKnown', WHERE WHAT IT READS IS OF BULK AT MOST 1048576: true; the input reads as it did. -/
def fcsKnownUptoRow : OpenClaim := { program := "ytphmikaeenkdoaadoor", sum := "93357e31c01ebd0af2bd05ae3b30567fabbd7c9b9c7d8f8876a00ec001c7ae69", func := "partyline/partylinelaw01.FcsKnown", spec := "fcsKnown", named := ["partyline/fcs.half"], apart := false, laid := [("partyline/fcs.half", laid_partyline_fcs_half)], narrowed := true }
def FcsKnownUptoSaid : Prop := fcsKnownUptoRow.holds Tryd.pinned (OpenSpec.upto fcsKnownSpec)

end Rows
end Go.Proofs.YtphmikaeenkdoaaDoor
