/- The walks of package seq (all but Window) and of its reference's Add, Way, Acks: what each call answers, in the words of the plain facts. -/
import Derived.Test.YtclijglnbolhbaaRows
import Derived.Test.YtclijglnbolhbaaSeqPlain
import Derived.Test.YtclijglnbolhbaaBase
namespace Go.Proofs.Ytclijglnbolhbaa
open Go.RowKit
set_option linter.unusedVariables false
set_option linter.unusedSimpArgs false


set_option maxHeartbeats 400000 in
theorem of_any (n : Int) (w : World) :
    Calls Try.prog 20 #[.int .i64 n] w fun e w' => e = .returned (.int .u8 (n % 8)) ∧ w = w' := by
  have hb := and7_i64 n
  go_enter Try.func20, Try.ntmps20
  go_wp2
  go_ret
  exact ⟨rfl, rfl⟩

set_option maxHeartbeats 400000 in
theorem on_any (a n : Int) (w : World) (h1 : 0 ≤ a) (h2 : a ≤ 7) :
    Calls Try.prog 21 #[.int .u8 a, .int .i64 n] w fun e w' => e = .returned (.int .u8 (ad a n)) ∧ w = w' := by
  have hb := and7_i64 n
  go_enter Try.func21, Try.ntmps21
  go_wp2_with (go_at_call 20; refine (of_any _ _).mono ?_; rintro e w' ⟨rfl, rfl⟩)
  go_ret
  exact ⟨ret_int (by unfold ad; omega), rfl⟩

set_option maxHeartbeats 400000 in
theorem to_any (a b : Int) (w : World) (h1 : 0 ≤ a) (h2 : a ≤ 7) (h3 : 0 ≤ b) (h4 : b ≤ 7) :
    Calls Try.prog 23 #[.int .u8 a, .int .u8 b] w fun e w' => e = .returned (.int .i64 (wy a b)) ∧ w = w' := by
  go_enter Try.func23, Try.ntmps23
  go_wp2_with (go_at_call 20; refine (of_any _ _).mono ?_; rintro e w' ⟨rfl, rfl⟩)
  go_ret
  exact ⟨ret_int (by unfold wy; omega), rfl⟩

set_option maxHeartbeats 400000 in
theorem size_any (n : Int) (w : World) :
    Calls Try.prog 24 #[.int .i64 n] w fun e w' => e = .returned (.int .i64 (sz n)) ∧ w = w' := by
  by_cases c1 : n < 0
  · have c2 : ¬ 7 < n := by omega
    go_enter Try.func24, Try.ntmps24
    go_wp2
    go_ret
    exact ⟨ret_int (by simp [sz, c1]), rfl⟩
  · by_cases c2 : 7 < n
    · go_enter Try.func24, Try.ntmps24
      go_wp2
      go_ret
      exact ⟨ret_int (by unfold sz; rw [if_neg (by omega), if_pos c2]), rfl⟩
    · go_enter Try.func24, Try.ntmps24
      go_wp2
      all_goals go_ret
      all_goals exact ⟨ret_int (by unfold sz; rw [if_neg (by omega), if_neg (by omega)]; try omega), rfl⟩

set_option maxHeartbeats 400000 in
theorem add_any (a n : Int) (w : World) (h1 : 0 ≤ a) (h2 : a ≤ 255) :
    Calls Try.prog 8 #[.int .u8 a, .int .i64 n] w fun e w' => e = .returned (.int .u8 (ad a n)) ∧ w = w' := by
  go_enter Try.func8, Try.ntmps8
  go_wp2_with (first | (go_at_call 20; refine (of_any _ _).mono ?_; rintro e w' ⟨rfl, rfl⟩) | (go_at_call 21; refine (on_any _ _ _ (by omega) (by omega)).mono ?_; rintro e w' ⟨rfl, rfl⟩))
  go_ret
  exact ⟨ret_int (by unfold ad; omega), rfl⟩

set_option maxHeartbeats 400000 in
theorem way_any (a b : Int) (w : World) (h1 : 0 ≤ a) (h2 : a ≤ 255) (h3 : 0 ≤ b) (h4 : b ≤ 255) :
    Calls Try.prog 10 #[.int .u8 a, .int .u8 b] w fun e w' => e = .returned (.int .i64 (wy a b)) ∧ w = w' := by
  go_enter Try.func10, Try.ntmps10
  go_wp2_with (first | (go_at_call 20; refine (of_any _ _).mono ?_; rintro e w' ⟨rfl, rfl⟩) | (go_at_call 23; refine (to_any _ _ _ (by omega) (by omega) (by omega) (by omega)).mono ?_; rintro e w' ⟨rfl, rfl⟩))
  go_ret
  exact ⟨ret_int (by unfold wy; omega), rfl⟩

set_option maxHeartbeats 400000 in
theorem in_any (a n x : Int) (w : World) (h1 : 0 ≤ a) (h2 : a ≤ 255) (h3 : 0 ≤ x) (h4 : x ≤ 255) :
    Calls Try.prog 16 #[.int .u8 a, .int .i64 n, .int .u8 x] w fun e w' => e = .returned (.bool (decide (wy a x < sz n))) ∧ w = w' := by
  go_enter Try.func16, Try.ntmps16
  go_wp2_with (first | (go_at_call 10; refine (way_any _ _ _ (by omega) (by omega) (by omega) (by omega)).mono ?_; rintro e w' ⟨rfl, rfl⟩) | (go_at_call 24; refine (size_any _ _).mono ?_; rintro e w' ⟨rfl, rfl⟩))
  go_ret
  exact ⟨rfl, rfl⟩

set_option maxHeartbeats 400000 in
theorem acks_yes (va vs nr : Int) (w : World) (h1 : 0 ≤ va) (h2 : va ≤ 255) (h3 : 0 ≤ vs) (h4 : vs ≤ 255) (h5 : 0 ≤ nr) (h6 : nr ≤ 255) (h : ¬ wy va vs < wy va nr) :
    Calls Try.prog 18 #[.int .u8 va, .int .u8 vs, .int .u8 nr] w fun e w' => e = .returned (.tuple #[.int .i64 (wy va nr), .bool true]) ∧ w = w' := by
  go_enter Try.func18, Try.ntmps18
  go_wp2_with (go_at_call 10; refine (way_any _ _ _ (by omega) (by omega) (by omega) (by omega)).mono ?_; rintro e w' ⟨rfl, rfl⟩)
  go_ret2
  exact ⟨rfl, rfl⟩

set_option maxHeartbeats 400000 in
theorem acks_no (va vs nr : Int) (w : World) (h1 : 0 ≤ va) (h2 : va ≤ 255) (h3 : 0 ≤ vs) (h4 : vs ≤ 255) (h5 : 0 ≤ nr) (h6 : nr ≤ 255) (h : wy va vs < wy va nr) :
    Calls Try.prog 18 #[.int .u8 va, .int .u8 vs, .int .u8 nr] w fun e w' => e = .returned (.tuple #[.int .i64 0, .bool false]) ∧ w = w' := by
  go_enter Try.func18, Try.ntmps18
  go_wp2_with (go_at_call 10; refine (way_any _ _ _ (by omega) (by omega) (by omega) (by omega)).mono ?_; rintro e w' ⟨rfl, rfl⟩)
  go_ret2
  exact ⟨rfl, rfl⟩

end Go.Proofs.Ytclijglnbolhbaa
