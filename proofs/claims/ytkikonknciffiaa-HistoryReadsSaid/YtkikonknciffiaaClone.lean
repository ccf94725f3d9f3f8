/- strings.Clone: the same bytes; of what was there nothing has turned. The shelf's contract of internal/stringslite.Clone, laid over this program. -/
import Derived.Test.YtkikonknciffiaaBase
import Derived.Shelf.Pu.Clone
namespace Go.Proofs.Ytkikonknciffiaa
open Go.RowKit Go.Shelf
set_option linter.unusedVariables false
set_option linter.unusedSimpArgs false

/-- This program's numbers for the shelf's. -/
def rhoC : Ren := ⟨fun _ => 41, fun x => match x with | 3 => 3 | 4 => 4 | 5 => 5 | 9 => 9 | 37 => 43 | 47 => 74 | _ => 0, fun x => x⟩

theorem laysClone : LaysPu.n25 Try.prog rhoC := by
  constructor
  all_goals first
    | kernel_rfl
    | (intro w; kernel_rfl)
    | (intro w; simp [go_sem]; done)

theorem lclone_any (s : ByteArray) (w : World) (hlim : s.size ≤ 281474976710656) :
    Calls Try.prog 41 #[.string s] w fun e w' => e = .returned (.string s) ∧ Below w.heap.size w w' := AnyPu.stringslite_Clone laysClone s w hlim

theorem clone_any (s : ByteArray) (w : World) (hlim : s.size ≤ 281474976710656) :
    Calls Try.prog 35 #[.string s] w fun e w' => e = .returned (.string s) ∧ Below w.heap.size w w' := by
  go_enter Try.func35, Try.ntmps35
  go_wp2_with fail
  refine (lclone_any s _ hlim).mono ?_
  rintro e w' ⟨rfl, hb⟩
  go_wp2
  go_ret
  exact ⟨rfl, hb⟩

end Go.Proofs.Ytkikonknciffiaa
