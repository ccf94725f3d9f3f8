/- The walk of chapter 13's examples: 'works' answers true, and nothing that was there turns. -/
import Derived.Test.YtclijglnbolhbaaSeqRows
namespace Go.Proofs.Ytclijglnbolhbaa
open Go.RowKit
set_option linter.unusedVariables false
set_option linter.unusedSimpArgs false

set_option maxHeartbeats 1000000 in
theorem works_any (w : World) :
    Calls Try.prog 12 #[] w fun e w' => e = .returned (.bool true) ∧ Below w.heap.size w w' := by
  have e1 : ad 6 3 = 1 := by decide
  have e2 : ad 1 (-2) = 7 := by decide
  have e3 : wy 6 1 = 3 := by decide
  have e4 : wy 1 6 = 5 := by decide
  have e5 : wy 6 0 = 2 := by decide
  have e6 : wy 6 6 = 0 := by decide
  have e7 : sz 3 = 3 := by decide
  have e8 : sz 0 = 0 := by decide
  go_enter Try.func12, Try.ntmps12
  go_wp2_with fail
  refine (acks_yes 6 1 0 _ (by omega) (by omega) (by omega) (by omega) (by omega) (by omega) (by decide)).mono ?_
  rintro e w' ⟨rfl, rfl⟩
  go_wp2_with fail
  refine (acks_yes 6 1 6 _ (by omega) (by omega) (by omega) (by omega) (by omega) (by omega) (by decide)).mono ?_
  rintro e w' ⟨rfl, rfl⟩
  go_wp2_with fail
  refine (acks_no 6 1 2 _ (by omega) (by omega) (by omega) (by omega) (by omega) (by omega) (by decide)).mono ?_
  rintro e w' ⟨rfl, rfl⟩
  go_wp2_with (first | (go_at_call 8; refine (add_any _ _ _ (by omega) (by omega)).mono ?_; rintro e w' ⟨rfl, rfl⟩) | (go_at_call 10; refine (way_any _ _ _ (by omega) (by omega) (by omega) (by omega)).mono ?_; rintro e w' ⟨rfl, rfl⟩) | (go_at_call 16; refine (in_any _ _ _ _ (by omega) (by omega) (by omega) (by omega)).mono ?_; rintro e w' ⟨rfl, rfl⟩) | (go_at_call 14; refine (window_any _ _ _ (by omega) (by omega)).mono ?_; rintro e w1 ⟨v, rfl, hown, hb⟩))
  obtain ⟨ad, c, rfl, hh⟩ := ownsRow_holds (l := win 6 3) (n := 3) rfl hown
  refine (same_any _ _ 3 _ _ (win 6 3) _ (by omega) (hh.alloc _) (holds8_new _ _ _ _ _ rfl rfl)).mono ?_
  rintro e w' ⟨rfl, m, rfl⟩
  go_wp2
  go_ret
  exact ⟨rfl, below_drewN (hb.alloc hb.size _) _⟩

end Go.Proofs.Ytclijglnbolhbaa
