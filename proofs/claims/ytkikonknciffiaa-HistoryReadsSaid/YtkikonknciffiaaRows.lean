/-
  No cell of these rows narrows 'for every input' (looked for: loops, veiled, ifaces, maps, wideKeys, modest, calm, conditions, laid).
  DERIVED. THE GIVEN ROWS OF THIS SEAT. 5 by the template 'for every input the law returns true; each argument reads behind the call as it read before'; 0 by the template 'total and deterministic' (their statements: YtkikonknciffiaaTotals.lean).
  GIVEN WITH THE SEED: the statements are not yours to turn. If you find one false, say at which input.
  Laid BY PROGRAM, IN A SANDBOX (cutbox-rows.mjs): the forced cells as the released guide's own fill.sh prints them over the translation 2c1ddd1501f6755a… (all of the seat's roots in one cut). By AI agents, Wed Nov 11 2026. No macro, syntax, notation, axiom, sorry.
-/
import Derived.Test.YtkikonknciffiaaChecked
import GoSem.Claim
import GoSem.ClaimJoined
import GoSem.ClaimMapViews
import Derived.JoinedTies
import Derived.KernelRfl
namespace Go.Proofs.Ytkikonknciffiaa
/- THE CELL 'sum', in the pinned program and in every row, IS THE sha256 OF THE DUMP (.gsa) THAT YtkikonknciffiaaProg.lean LOADS. Nothing in Lean hashes anything: it is a label: what it is worth is what the hold of that sum in a sandbox is worth. -/
noncomputable def Try.pinned : Pinned := { name := "ytkikonknciffiaa", sum := "2c1ddd1501f6755a6ba3e2d457bf0a61d885e73dd75bfb91445ca4ddee2464ea", checked := Try.checked }
namespace Rows
def none {H : Type} : Left H := { results := [], args := [] }

/-- 'partylinelaw28.HistoryAccepts': WHATEVER THE INPUT: true; the input reads as it did. -/
def historyAcceptsSpec : ChangeSpec := { name := "historyAccepts", fn := fun _ => fun
  | [d] => { results := [.lit (.bool true)], args := [d] }
  | _ => none }
def historyAcceptsRow : OpenClaim := { program := "ytkikonknciffiaa", sum := "2c1ddd1501f6755a6ba3e2d457bf0a61d885e73dd75bfb91445ca4ddee2464ea", func := "partyline/partylinelaw28.HistoryAccepts", spec := "historyAccepts", unfollowed := true, recurses := true, plainKeys := false, apart := false }
def HistoryAcceptsSaid : Prop := historyAcceptsRow.holds Try.pinned (OpenSpec.ofChange historyAcceptsSpec)

/-- ITS FALSE NEIGHBOUR: 'it returns false'. Refute it at one input. -/
def historyAcceptsWrong : ChangeSpec := { name := "historyAccepts", fn := fun _ => fun
  | [d] => { results := [.lit (.bool false)], args := [d] }
  | _ => none }
def HistoryAcceptsWrongFalsely : Prop := historyAcceptsRow.holds Try.pinned (OpenSpec.ofChange historyAcceptsWrong)

/-- 'partylinelaw28.HistoryGoes': WHATEVER THE INPUT: true; the input reads as it did. -/
def historyGoesSpec : ChangeSpec := { name := "historyGoes", fn := fun _ => fun
  | [d] => { results := [.lit (.bool true)], args := [d] }
  | _ => none }
def historyGoesRow : OpenClaim := { program := "ytkikonknciffiaa", sum := "2c1ddd1501f6755a6ba3e2d457bf0a61d885e73dd75bfb91445ca4ddee2464ea", func := "partyline/partylinelaw28.HistoryGoes", spec := "historyGoes", unfollowed := true, recurses := true, plainKeys := false, apart := false }
def HistoryGoesSaid : Prop := historyGoesRow.holds Try.pinned (OpenSpec.ofChange historyGoesSpec)

/-- ITS FALSE NEIGHBOUR: 'it returns false'. Refute it at one input. -/
def historyGoesWrong : ChangeSpec := { name := "historyGoes", fn := fun _ => fun
  | [d] => { results := [.lit (.bool false)], args := [d] }
  | _ => none }
def HistoryGoesWrongFalsely : Prop := historyGoesRow.holds Try.pinned (OpenSpec.ofChange historyGoesWrong)

/-- 'partylinelaw28.HistoryReads': WHATEVER THE INPUT: true; the input reads as it did. -/
def historyReadsSpec : ChangeSpec := { name := "historyReads", fn := fun _ => fun
  | [d1, d2] => { results := [.lit (.bool true)], args := [d1, d2] }
  | _ => none }
def historyReadsRow : OpenClaim := { program := "ytkikonknciffiaa", sum := "2c1ddd1501f6755a6ba3e2d457bf0a61d885e73dd75bfb91445ca4ddee2464ea", func := "partyline/partylinelaw28.HistoryReads", spec := "historyReads", unfollowed := true, recurses := true, plainKeys := false, apart := false }
def HistoryReadsSaid : Prop := historyReadsRow.holds Try.pinned (OpenSpec.ofChange historyReadsSpec)

/-- ITS FALSE NEIGHBOUR: 'it returns false'. Refute it at one input. -/
def historyReadsWrong : ChangeSpec := { name := "historyReads", fn := fun _ => fun
  | [d1, d2] => { results := [.lit (.bool false)], args := [d1, d2] }
  | _ => none }
def HistoryReadsWrongFalsely : Prop := historyReadsRow.holds Try.pinned (OpenSpec.ofChange historyReadsWrong)

/-- 'partylinelaw28.HistoryApart': WHATEVER THE INPUT: true; the input reads as it did. -/
def historyApartSpec : ChangeSpec := { name := "historyApart", fn := fun _ => fun
  | [d1, d2] => { results := [.lit (.bool true)], args := [d1, d2] }
  | _ => none }
def historyApartRow : OpenClaim := { program := "ytkikonknciffiaa", sum := "2c1ddd1501f6755a6ba3e2d457bf0a61d885e73dd75bfb91445ca4ddee2464ea", func := "partyline/partylinelaw28.HistoryApart", spec := "historyApart", unfollowed := true, recurses := true, plainKeys := false, apart := false }
def HistoryApartSaid : Prop := historyApartRow.holds Try.pinned (OpenSpec.ofChange historyApartSpec)

/-- ITS FALSE NEIGHBOUR: 'it returns false'. Refute it at one input. -/
def historyApartWrong : ChangeSpec := { name := "historyApart", fn := fun _ => fun
  | [d1, d2] => { results := [.lit (.bool false)], args := [d1, d2] }
  | _ => none }
def HistoryApartWrongFalsely : Prop := historyApartRow.holds Try.pinned (OpenSpec.ofChange historyApartWrong)

/-- 'partylinelaw28.HistoryKnown': WHATEVER THE INPUT: true; the input reads as it did. -/
def historyKnownSpec : ChangeSpec := { name := "historyKnown", fn := fun _ => fun
  | [] => { results := [.lit (.bool true)], args := [] }
  | _ => none }
def historyKnownRow : OpenClaim := { program := "ytkikonknciffiaa", sum := "2c1ddd1501f6755a6ba3e2d457bf0a61d885e73dd75bfb91445ca4ddee2464ea", func := "partyline/partylinelaw28.HistoryKnown", spec := "historyKnown", unfollowed := true, recurses := true, plainKeys := false, apart := false }
def HistoryKnownSaid : Prop := historyKnownRow.holds Try.pinned (OpenSpec.ofChange historyKnownSpec)

/-- ITS FALSE NEIGHBOUR: 'it returns false'. Refute it at one input. -/
def historyKnownWrong : ChangeSpec := { name := "historyKnown", fn := fun _ => fun
  | [] => { results := [.lit (.bool false)], args := [] }
  | _ => none }
def HistoryKnownWrongFalsely : Prop := historyKnownRow.holds Try.pinned (OpenSpec.ofChange historyKnownWrong)

/- THE SECOND FORM. 'bulk': how many values and letters a reading holds, each counted each time it is reached (what is shared counts as often as it is met; a slice's spare places count too). A statement '..UptoSaid' is the law's where the arguments, and the package variables that the reading takes, are together of bulk at most 1048576: NARROWER than '..Said'. Prove '..Said' where nothing that the law and all that it calls make is longer than what came in: it says more and counts as full. Else prove '..UptoSaid'. A law counts once. -/
mutual
def uptoBulk {H : Type} : DataW H → Nat
  | .lit (.string bytes) => bytes.length + 1
  | .lit _ => 1
  | .nil => 1
  | .ptr d => uptoBulk d + 1
  | .slice elems spare => uptoBulkAll elems + uptoBulkAll spare + 1
  | .agg parts => uptoBulkAll parts + 1
  | .iface _ d => uptoBulk d + 1
  | .map entries => uptoBulkEntries entries + 1
  | .held _ => 1
def uptoBulkAll {H : Type} : List (DataW H) → Nat
  | [] => 0
  | d :: r => uptoBulk d + uptoBulkAll r
def uptoBulkEntries {H : Type} : List (Lit × DataW H) → Nat
  | [] => 0
  | x :: r => uptoBulkEntry x + uptoBulkEntries r
def uptoBulkEntry {H : Type} : Lit × DataW H → Nat
  | (.string bytes, d) => bytes.length + uptoBulk d + 1
  | (_, d) => uptoBulk d + 1
 end
def uptoSmall : (H : Type) → List (DataW H) → Bool := fun _ ds => decide (uptoBulkAll ds ≤ 1048576)
def OpenSpec.upto (s : _root_.Go.ChangeSpec) : _root_.Go.OpenSpec := { _root_.Go.OpenSpec.ofChange s with cond := some uptoSmall }

/-- 'partylinelaw28.HistoryAccepts', WHERE WHAT IT READS IS OF BULK AT MOST 1048576: true; the input reads as it did. -/
def historyAcceptsUptoRow : OpenClaim := { program := "ytkikonknciffiaa", sum := "2c1ddd1501f6755a6ba3e2d457bf0a61d885e73dd75bfb91445ca4ddee2464ea", func := "partyline/partylinelaw28.HistoryAccepts", spec := "historyAccepts", unfollowed := true, recurses := true, plainKeys := false, apart := false, narrowed := true }
def HistoryAcceptsUptoSaid : Prop := historyAcceptsUptoRow.holds Try.pinned (OpenSpec.upto historyAcceptsSpec)

/-- 'partylinelaw28.HistoryGoes', WHERE WHAT IT READS IS OF BULK AT MOST 1048576: true; the input reads as it did. -/
def historyGoesUptoRow : OpenClaim := { program := "ytkikonknciffiaa", sum := "2c1ddd1501f6755a6ba3e2d457bf0a61d885e73dd75bfb91445ca4ddee2464ea", func := "partyline/partylinelaw28.HistoryGoes", spec := "historyGoes", unfollowed := true, recurses := true, plainKeys := false, apart := false, narrowed := true }
def HistoryGoesUptoSaid : Prop := historyGoesUptoRow.holds Try.pinned (OpenSpec.upto historyGoesSpec)

/-- 'partylinelaw28.HistoryReads', WHERE WHAT IT READS IS OF BULK AT MOST 1048576: true; the input reads as it did. -/
def historyReadsUptoRow : OpenClaim := { program := "ytkikonknciffiaa", sum := "2c1ddd1501f6755a6ba3e2d457bf0a61d885e73dd75bfb91445ca4ddee2464ea", func := "partyline/partylinelaw28.HistoryReads", spec := "historyReads", unfollowed := true, recurses := true, plainKeys := false, apart := false, narrowed := true }
def HistoryReadsUptoSaid : Prop := historyReadsUptoRow.holds Try.pinned (OpenSpec.upto historyReadsSpec)

/-- 'partylinelaw28.HistoryApart', WHERE WHAT IT READS IS OF BULK AT MOST 1048576: true; the input reads as it did. -/
def historyApartUptoRow : OpenClaim := { program := "ytkikonknciffiaa", sum := "2c1ddd1501f6755a6ba3e2d457bf0a61d885e73dd75bfb91445ca4ddee2464ea", func := "partyline/partylinelaw28.HistoryApart", spec := "historyApart", unfollowed := true, recurses := true, plainKeys := false, apart := false, narrowed := true }
def HistoryApartUptoSaid : Prop := historyApartUptoRow.holds Try.pinned (OpenSpec.upto historyApartSpec)

/-- 'partylinelaw28.HistoryKnown', WHERE WHAT IT READS IS OF BULK AT MOST 1048576: true; the input reads as it did. -/
def historyKnownUptoRow : OpenClaim := { program := "ytkikonknciffiaa", sum := "2c1ddd1501f6755a6ba3e2d457bf0a61d885e73dd75bfb91445ca4ddee2464ea", func := "partyline/partylinelaw28.HistoryKnown", spec := "historyKnown", unfollowed := true, recurses := true, plainKeys := false, apart := false, narrowed := true }
def HistoryKnownUptoSaid : Prop := historyKnownUptoRow.holds Try.pinned (OpenSpec.upto historyKnownSpec)

end Rows
end Go.Proofs.Ytkikonknciffiaa
