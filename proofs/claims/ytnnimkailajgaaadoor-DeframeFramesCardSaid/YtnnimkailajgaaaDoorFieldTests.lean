/- The walks of the tests May, Carries (the program's, the reference's), and of the chapter's examples. -/
import Derived.Test.YtnnimkailajgaaaDoorFieldGet
namespace Go.Proofs.YtnnimkailajgaaaDoor
open Go.RowKit
set_option linter.unusedVariables false
set_option linter.unusedSimpArgs false

def carr (k : Nat) : Bool := decide (5 ≤ k ∧ k ≤ 7)
def mayF (k : Nat) (c : Bool) : Bool := if k = 1 ∨ k = 4 then c else if k = 2 ∨ k = 3 then !c else decide (5 ≤ k ∧ k ≤ 10)
theorem kinds_cases {k : Nat} : k = 0 ∨ k = 1 ∨ k = 2 ∨ k = 3 ∨ k = 4 ∨ k = 5 ∨ k = 6 ∨ k = 7 ∨ k = 8 ∨ k = 9 ∨ k = 10 ∨ 10 < k := by omega

set_option maxHeartbeats 1000000 in
theorem fcarries_any (k : Nat) (w : World) (h1 : k ≤ 255) :
    Calls Tryd.prog 44 #[.int .u8 (k : Int)] w fun e w' => e = .returned (.bool (carr k)) ∧ w = w' := by
  rcases @kinds_cases k with rfl | rfl | rfl | rfl | rfl | rfl | rfl | rfl | rfl | rfl | rfl | h
  all_goals first
    | (have hc : carr k = false := decide_eq_false (by omega)
       rw [hc]
       clear hc
       go_enter Tryd.func44, Tryd.ntmps44
       go_wp2
       go_ret
       exact ⟨ret_bool (decide_eq_false (by omega)), rfl⟩)
    | (clear h1
       go_enter Tryd.func44, Tryd.ntmps44
       go_wp2
       go_ret
       exact ⟨rfl, rfl⟩)
set_option maxHeartbeats 1000000 in
theorem fmay_any (k : Nat) (c : Bool) (w : World) (h1 : k ≤ 255) :
    Calls Tryd.prog 43 #[.int .u8 (k : Int), .bool c] w fun e w' => e = .returned (.bool (mayF k c)) ∧ w = w' := by
  rcases @kinds_cases k with rfl | rfl | rfl | rfl | rfl | rfl | rfl | rfl | rfl | rfl | rfl | h
  all_goals first
    | (have hc : mayF k c = false := by unfold mayF; rw [if_neg (by omega), if_neg (by omega)]; exact decide_eq_false (by omega)
       have e1 : ((k : Int) == 1) = false := by rw [beq_eq_false_iff_ne]; omega
       have e2 : ((k : Int) == 2) = false := by rw [beq_eq_false_iff_ne]; omega
       have e3 : ((k : Int) == 3) = false := by rw [beq_eq_false_iff_ne]; omega
       have e4 : ((k : Int) == 4) = false := by rw [beq_eq_false_iff_ne]; omega
       rw [hc]
       clear hc
       go_enter Tryd.func43, Tryd.ntmps43
       go_wp2
       go_ret
       exact ⟨ret_bool (decide_eq_false (by omega)), rfl⟩)
    | (clear h1
       go_enter Tryd.func43, Tryd.ntmps43
       go_wp2
       go_ret
       exact ⟨rfl, rfl⟩)
theorem put_a (w : World) (hh : Octs w) : Calls Tryd.prog 31 #[.int .u8 1, .bool true, .int .u8 0, .int .u8 0] w fun e w' => e = .returned (.tuple #[.int .u8 63, .int .i64 0]) ∧ w = w' := by
  have := fput_any 1 true 0 0 w hh (by omega) (by omega) (by omega)
  rw [show putR 1 true 0 0 = .returned (.tuple #[.int .u8 63, .int .i64 0]) from rfl] at this; exact this
theorem put_b (w : World) (hh : Octs w) : Calls Tryd.prog 31 #[.int .u8 7, .bool false, .int .u8 2, .int .u8 5] w fun e w' => e = .returned (.tuple #[.int .u8 164, .int .i64 0]) ∧ w = w' := by
  have := fput_any 7 false 2 5 w hh (by omega) (by omega) (by omega)
  rw [show putR 7 false 2 5 = .returned (.tuple #[.int .u8 164, .int .i64 0]) from rfl] at this; exact this
theorem put_c (w : World) (hh : Octs w) : Calls Tryd.prog 31 #[.int .u8 8, .bool false, .int .u8 1, .int .u8 0] w fun e w' => e = .returned (.tuple #[.int .u8 0, .int .i64 2]) ∧ w = w' := by
  have := fput_any 8 false 1 0 w hh (by omega) (by omega) (by omega)
  rw [show putR 8 false 1 0 = .returned (.tuple #[.int .u8 0, .int .i64 2]) from rfl] at this; exact this
theorem get_a (w : World) (hh : Octs w) : Calls Tryd.prog 42 #[.int .u8 115] w fun e w' => e = .returned (.tuple #[.int .u8 2, .bool true, .int .u8 0, .int .u8 0, .int .i64 0]) ∧ w = w' := by
  have := fget_any 115 w hh (by omega)
  rw [show getR 115 = .returned (.tuple #[.int .u8 2, .bool true, .int .u8 0, .int .u8 0, .int .i64 0]) from rfl] at this; exact this
theorem get_b (w : World) (hh : Octs w) : Calls Tryd.prog 42 #[.int .u8 13] w fun e w' => e = .returned (.tuple #[.int .u8 0, .bool false, .int .u8 0, .int .u8 0, .int .i64 30]) ∧ w = w' := by
  have := fget_any 13 w hh (by omega)
  rw [show getR 13 = .returned (.tuple #[.int .u8 0, .bool false, .int .u8 0, .int .u8 0, .int .i64 30]) from rfl] at this; exact this
theorem get_c (w : World) (hh : Octs w) : Calls Tryd.prog 42 #[.int .u8 225] w fun e w' => e = .returned (.tuple #[.int .u8 8, .bool false, .int .u8 0, .int .u8 7, .int .i64 0]) ∧ w = w' := by
  have := fget_any 225 w hh (by omega)
  rw [show getR 225 = .returned (.tuple #[.int .u8 8, .bool false, .int .u8 0, .int .u8 7, .int .i64 0]) from rfl] at this; exact this
theorem may_a (w : World) : Calls Tryd.prog 43 #[.int .u8 1, .bool false] w fun e w' => e = .returned (.bool false) ∧ w = w' := fmay_any 1 false w (by omega)
end Go.Proofs.YtnnimkailajgaaaDoor
