/- The walks of chapter 13's laws SeqAdd, SeqAcks, SeqWays: each answers true. -/
import Derived.Test.YtclijglnbolhbaaSeqWorks
namespace Go.Proofs.Ytclijglnbolhbaa
open Go.RowKit
set_option linter.unusedVariables false
set_option linter.unusedSimpArgs false

set_option maxHeartbeats 1000000 in
theorem seqAdd_any (a b n : Int) (w : World) (h1 : 0 ≤ a) (h2 : a ≤ 255) (h3 : 0 ≤ b) (h4 : b ≤ 255) (h5 : -9223372036854775808 ≤ n) (h6 : n ≤ 9223372036854775807) :
    Calls Try.prog 3 #[.int .u8 a, .int .u8 b, .int .i64 n] w fun e w' => e = .returned (.bool true) ∧ Below w.heap.size w w' := by
  go_enter Try.func3, Try.ntmps3
  go_wp2_with (first | (go_at_call 8; refine (add_any _ _ _ (by omega) (by omega)).mono ?_; rintro e w' ⟨rfl, rfl⟩) | (go_at_call 9; refine (radd_any _ _ _ (by omega) (by omega) (by omega) (by omega)).mono ?_; rintro e w' ⟨rfl, rfl⟩) | (go_at_call 10; refine (way_any _ _ _ (by omega) (by omega) (by omega) (by omega)).mono ?_; rintro e w' ⟨rfl, rfl⟩) | (go_at_call 11; refine (rway_any _ _ _ (by omega) (by omega) (by omega) (by omega)).mono ?_; rintro e w' ⟨rfl, rfl⟩) | (go_at_call 12; refine (works_any _).mono ?_; rintro e w' ⟨rfl, hb⟩))
  go_ret
  exact ⟨rfl, hb⟩

set_option maxHeartbeats 1000000 in
theorem seqAcks_any (va vs nr : Int) (w : World) (h1 : 0 ≤ va) (h2 : va ≤ 255) (h3 : 0 ≤ vs) (h4 : vs ≤ 255) (h5 : 0 ≤ nr) (h6 : nr ≤ 255) :
    Calls Try.prog 5 #[.int .u8 va, .int .u8 vs, .int .u8 nr] w fun e w' => e = .returned (.bool true) ∧ Below w.heap.size w w' := by
  have hb1 := wy_bd va nr
  have hb2 := wy_bd va vs
  by_cases h : wy va vs < wy va nr
  · go_enter Try.func5, Try.ntmps5
    go_wp2_with (first | (go_at_call 18; refine (acks_no _ _ _ _ (by omega) (by omega) (by omega) (by omega) (by omega) (by omega) (by omega)).mono ?_; rintro e w' ⟨rfl, rfl⟩) | (go_at_call 19; refine (racks_no _ _ _ _ (by omega) (by omega) (by omega) (by omega) (by omega) (by omega) (by omega)).mono ?_; rintro e w' ⟨rfl, rfl⟩) | (go_at_call 10; refine (way_any _ _ _ (by omega) (by omega) (by omega) (by omega)).mono ?_; rintro e w' ⟨rfl, rfl⟩) | (go_at_call 12; refine (works_any _).mono ?_; rintro e w' ⟨rfl, hb⟩))
    go_ret
    exact ⟨rfl, hb⟩
  · go_enter Try.func5, Try.ntmps5
    go_wp2_with (first | (go_at_call 18; refine (acks_yes _ _ _ _ (by omega) (by omega) (by omega) (by omega) (by omega) (by omega) (by omega)).mono ?_; rintro e w' ⟨rfl, rfl⟩) | (go_at_call 19; refine (racks_yes _ _ _ _ (by omega) (by omega) (by omega) (by omega) (by omega) (by omega) (by omega)).mono ?_; rintro e w' ⟨rfl, rfl⟩) | (go_at_call 10; refine (way_any _ _ _ (by omega) (by omega) (by omega) (by omega)).mono ?_; rintro e w' ⟨rfl, rfl⟩) | (go_at_call 12; refine (works_any _).mono ?_; rintro e w' ⟨rfl, hb⟩))
    go_ret
    exact ⟨rfl, hb⟩

theorem wy_plain (a b : Int) : wy a b = (b - a) % 8 := rfl
theorem ad_plain (a n : Int) : ad a n = (a + n) % 8 := rfl

set_option maxHeartbeats 1000000 in
theorem seqWays_any (a b c : Int) (w : World) (h1 : 0 ≤ a) (h2 : a ≤ 255) (h3 : 0 ≤ b) (h4 : b ≤ 255) (h5 : 0 ≤ c) (h6 : c ≤ 255) :
    Calls Try.prog 6 #[.int .u8 a, .int .u8 b, .int .u8 c] w fun e w' => e = .returned (.bool true) ∧ Below w.heap.size w w' := by
  have hb1 := wy_bd a b
  have hb2 := wy_bd b c
  have hb3 := wy_bd a c
  have hb4 := wy_bd b a
  have e1 : ((wy a b + wy b c) % 8 == wy a c) = true := by rw [beq_iff_eq, wy_plain, wy_plain, wy_plain]; omega
  have e2 : (ad a (wy a b) == b % 8) = true := by rw [beq_iff_eq, ad_plain, wy_plain]; omega
  have e3 : (ad b (-wy a b) == a % 8) = true := by rw [beq_iff_eq, ad_plain, wy_plain]; omega
  by_cases hz : wy a b = 0
  · have e4 : (wy a b + wy b a == 8) = false := by rw [beq_eq_false_iff_ne]; rw [wy_plain] at *; rw [wy_plain]; omega
    have e5 : (wy a b == 0) = true := by rw [beq_iff_eq]; exact hz
    have e6 : (wy b a == 0) = true := by rw [beq_iff_eq]; rw [wy_plain] at *; omega
    clear hz
    go_enter Try.func6, Try.ntmps6
    go_wp2_with (first | (go_at_call 8; refine (add_any _ _ _ (by omega) (by omega)).mono ?_; rintro e w' ⟨rfl, rfl⟩) | (go_at_call 10; refine (way_any _ _ _ (by omega) (by omega) (by omega) (by omega)).mono ?_; rintro e w' ⟨rfl, rfl⟩) | (go_at_call 12; refine (works_any _).mono ?_; rintro e w' ⟨rfl, hb⟩))
    go_ret
    exact ⟨rfl, hb⟩
  · have e4 : (wy a b + wy b a == 8) = true := by rw [beq_iff_eq]; rw [wy_plain] at *; rw [wy_plain]; omega
    clear hz
    go_enter Try.func6, Try.ntmps6
    go_wp2_with (first | (go_at_call 8; refine (add_any _ _ _ (by omega) (by omega)).mono ?_; rintro e w' ⟨rfl, rfl⟩) | (go_at_call 10; refine (way_any _ _ _ (by omega) (by omega) (by omega) (by omega)).mono ?_; rintro e w' ⟨rfl, rfl⟩) | (go_at_call 12; refine (works_any _).mono ?_; rintro e w' ⟨rfl, hb⟩))
    go_ret
    exact ⟨rfl, hb⟩

end Go.Proofs.Ytclijglnbolhbaa
