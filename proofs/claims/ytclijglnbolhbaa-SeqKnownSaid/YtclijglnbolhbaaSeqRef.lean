/- The walks of seq's reference: next, Add, Way, Acks. -/
import Derived.Test.YtclijglnbolhbaaSeqWalks
namespace Go.Proofs.Ytclijglnbolhbaa
open Go.RowKit
set_option linter.unusedVariables false
set_option linter.unusedSimpArgs false

set_option maxHeartbeats 400000 in
theorem rnext_any (a : Int) (w : World) (h1 : 0 ≤ a) (h2 : a ≤ 7) :
    Calls Try.prog 22 #[.int .u8 a] w fun e w' => e = .returned (.int .u8 ((a + 1) % 8)) ∧ w = w' := by
  by_cases c : 7 ≤ a
  all_goals
    go_enter Try.func22, Try.ntmps22
    go_wp2
    go_ret
    exact ⟨ret_int (by omega), rfl⟩

set_option maxHeartbeats 400000 in
theorem radd_any (a n : Int) (w : World) (h1 : 0 ≤ a) (h2 : a ≤ 255) (h3 : -9223372036854775808 ≤ n) (h4 : n ≤ 9223372036854775807) :
    Calls Try.prog 9 #[.int .u8 a, .int .i64 n] w fun e w' => e = .returned (.int .u8 (ad a n)) ∧ w = w' := by
  have ht : -8 < n.tmod 8 ∧ n.tmod 8 < 8 ∧ Hid ((n.tmod 8 - n) % 8 = 0) := by
    have := Int.tmod_def n 8
    by_cases hn : 0 ≤ n
    · rw [Int.tmod_eq_emod_of_nonneg hn]; exact ⟨by omega, by omega, show _ = _ by omega⟩
    · have h := Int.tmod_eq_emod_of_nonneg (a := -n) (b := 8) (by omega)
      rw [Int.neg_tmod] at h; exact ⟨by omega, by omega, show _ = _ by omega⟩
  obtain ⟨t1, t2, t3⟩ := ht
  by_cases c : n.tmod 8 < 0
  · go_enter Try.func9, Try.ntmps9
    go_wp2
    go_loop [6, 7] (fun x i => ∃ k : Int, 0 ≤ k ∧ k ≤ n.tmod 8 + 8 ∧ i = .int .i64 k ∧ x = .int .u8 ((a + k) % 8)) (fun _ i => (n.tmod 8 + 8 - intOf i).toNat)
    case atStart => exact ⟨0, by omega, by omega, rfl, by go_num⟩
    case round =>
      obtain ⟨k, hk0, hk, rfl, rfl⟩ := hrel
      by_cases hlt : k < n.tmod 8 + 8
      · go_wp2_with (go_at_call 22; refine (rnext_any _ _ (by omega) (by omega)).mono ?_; rintro e w' ⟨rfl, rfl⟩)
        go_round
        case rel => exact ⟨k + 1, by omega, by omega, by go_num, by go_num⟩
        case measure => simp [intOf]; omega
      · go_wp2
        go_ret
        exact ⟨ret_int (by have := t3.out; unfold ad; omega), rfl⟩
  · go_enter Try.func9, Try.ntmps9
    go_wp2
    go_loop [6, 7] (fun x i => ∃ k : Int, 0 ≤ k ∧ k ≤ n.tmod 8 ∧ i = .int .i64 k ∧ x = .int .u8 ((a + k) % 8)) (fun _ i => (n.tmod 8 - intOf i).toNat)
    case atStart => exact ⟨0, by omega, by omega, rfl, by go_num⟩
    case round =>
      obtain ⟨k, hk0, hk, rfl, rfl⟩ := hrel
      by_cases hlt : k < n.tmod 8
      · go_wp2_with (go_at_call 22; refine (rnext_any _ _ (by omega) (by omega)).mono ?_; rintro e w' ⟨rfl, rfl⟩)
        go_round
        case rel => exact ⟨k + 1, by omega, by omega, by go_num, by go_num⟩
        case measure => simp [intOf]; omega
      · go_wp2
        go_ret
        exact ⟨ret_int (by have := t3.out; unfold ad; omega), rfl⟩

set_option maxHeartbeats 400000 in
theorem rway_any (a b : Int) (w : World) (h1 : 0 ≤ a) (h2 : a ≤ 255) (h3 : 0 ≤ b) (h4 : b ≤ 255) :
    Calls Try.prog 11 #[.int .u8 a, .int .u8 b] w fun e w' => e = .returned (.int .i64 (wy a b)) ∧ w = w' := by
  have hb := wy_bd a b
  have hw : Hid (wy a b = (b - a) % 8) := rfl
  go_enter Try.func11, Try.ntmps11
  go_wp2
  go_loop [5, 6] (fun i x => ∃ k : Int, 0 ≤ k ∧ k ≤ wy a b ∧ i = .int .i64 k ∧ x = .int .u8 ((a + k) % 8)) (fun i _ => (wy a b - intOf i).toNat)
  case atStart => exact ⟨0, by omega, by omega, rfl, by go_num⟩
  case round =>
    obtain ⟨k, hk0, hk, rfl, rfl⟩ := hrel
    by_cases hlt : k < wy a b
    · have ht : ((a + k) % 8 != b % 8) = true := by rw [bne_iff_ne]; have := hw.out; omega
      go_wp2_with (go_at_call 22; refine (rnext_any _ _ (by omega) (by omega)).mono ?_; rintro e w' ⟨rfl, rfl⟩)
      go_round
      case rel => exact ⟨k + 1, by omega, by omega, by go_num, by go_num⟩
      case measure => simp [intOf]; omega
    · have ht : ((a + k) % 8 != b % 8) = false := by rw [bne_eq_false_iff_eq]; have := hw.out; omega
      go_wp2
      go_ret
      exact ⟨ret_int (by omega), rfl⟩

set_option maxHeartbeats 1000000 in
theorem racks_yes (va vs nr : Int) (w : World) (h1 : 0 ≤ va) (h2 : va ≤ 255) (h3 : 0 ≤ vs) (h4 : vs ≤ 255) (h5 : 0 ≤ nr) (h6 : nr ≤ 255) (h : ¬ wy va vs < wy va nr) :
    Calls Try.prog 19 #[.int .u8 va, .int .u8 vs, .int .u8 nr] w fun e w' => e = .returned (.tuple #[.int .i64 (wy va nr), .bool true]) ∧ w = w' := by
  have hb := wy_bd va nr
  have hb2 := wy_bd va vs
  have hw : Hid (wy va nr = (nr - va) % 8) := rfl
  have hw2 : Hid (wy va vs = (vs - va) % 8) := rfl
  go_enter Try.func19, Try.ntmps19
  go_wp2
  go_loop [8, 9] (fun x i => ∃ k : Int, 0 ≤ k ∧ k ≤ wy va nr ∧ i = .int .i64 k ∧ x = .int .u8 ((va + k) % 8)) (fun _ i => (8 - intOf i).toNat)
  case atStart => exact ⟨0, by omega, by omega, rfl, by go_num⟩
  case round =>
    obtain ⟨k, hk0, hk, rfl, rfl⟩ := hrel
    by_cases hlt : k < wy va nr
    · have ht : ((va + k) % 8 == nr % 8) = false := by rw [beq_eq_false_iff_ne]; have := hw.out; omega
      have ht2 : ((va + k) % 8 == vs % 8) = false := by rw [beq_eq_false_iff_ne]; have := hw2.out; omega
      go_wp2_with (go_at_call 22; refine (rnext_any _ _ (by omega) (by omega)).mono ?_; rintro e w' ⟨rfl, rfl⟩)
      go_round
      case rel => exact ⟨k + 1, by omega, by omega, by go_num, by go_num⟩
      case measure => simp [intOf]; omega
    · have ht : ((va + k) % 8 == nr % 8) = true := by rw [beq_iff_eq]; have := hw.out; omega
      go_wp2
      go_ret2
      exact ⟨by rw [show k = wy va nr by omega]; rfl, rfl⟩

set_option maxHeartbeats 1000000 in
theorem racks_no (va vs nr : Int) (w : World) (h1 : 0 ≤ va) (h2 : va ≤ 255) (h3 : 0 ≤ vs) (h4 : vs ≤ 255) (h5 : 0 ≤ nr) (h6 : nr ≤ 255) (h : wy va vs < wy va nr) :
    Calls Try.prog 19 #[.int .u8 va, .int .u8 vs, .int .u8 nr] w fun e w' => e = .returned (.tuple #[.int .i64 0, .bool false]) ∧ w = w' := by
  have hb := wy_bd va nr
  have hb2 := wy_bd va vs
  have hw : Hid (wy va nr = (nr - va) % 8) := rfl
  have hw2 : Hid (wy va vs = (vs - va) % 8) := rfl
  go_enter Try.func19, Try.ntmps19
  go_wp2
  go_loop [8, 9] (fun x i => ∃ k : Int, 0 ≤ k ∧ k ≤ wy va vs ∧ i = .int .i64 k ∧ x = .int .u8 ((va + k) % 8)) (fun _ i => (8 - intOf i).toNat)
  case atStart => exact ⟨0, by omega, by omega, rfl, by go_num⟩
  case round =>
    obtain ⟨k, hk0, hk, rfl, rfl⟩ := hrel
    have ht : ((va + k) % 8 == nr % 8) = false := by rw [beq_eq_false_iff_ne]; have := hw.out; omega
    by_cases hlt : k < wy va vs
    · have ht2 : ((va + k) % 8 == vs % 8) = false := by rw [beq_eq_false_iff_ne]; have := hw2.out; omega
      go_wp2_with (go_at_call 22; refine (rnext_any _ _ (by omega) (by omega)).mono ?_; rintro e w' ⟨rfl, rfl⟩)
      go_round
      case rel => exact ⟨k + 1, by omega, by omega, by go_num, by go_num⟩
      case measure => simp [intOf]; omega
    · have ht2 : ((va + k) % 8 == vs % 8) = true := by rw [beq_iff_eq]; have := hw2.out; omega
      go_wp2
      go_ret2
      exact ⟨rfl, rfl⟩

end Go.Proofs.Ytclijglnbolhbaa
