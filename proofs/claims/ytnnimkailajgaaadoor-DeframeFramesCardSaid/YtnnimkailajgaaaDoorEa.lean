/- The walks of ea.Address, ea.Split and of the reference's. -/
import Derived.Test.YtnnimkailajgaaaDoorBytes
namespace Go.Proofs.YtnnimkailajgaaaDoor
open Go.RowKit
set_option linter.unusedVariables false
set_option linter.unusedSimpArgs false

/-- An address; what one tells. -/
def eaA (d : Nat) (b : Bool) : Nat := if 63 < d then 0 else 4 * d + (if b then 2 else 0) + 1
def esR (a : Nat) : Ending := if a % 2 = 0 then .returned (.tuple #[.int .u8 0, .bool false, .bool false]) else .returned (.tuple #[.int .u8 ((a / 4 : Nat) : Int), .bool (decide (a / 2 % 2 = 1)), .bool true])
theorem eaA_le (d : Nat) (b : Bool) : eaA d b ≤ 255 := by unfold eaA; split; omega; split <;> omega
theorem ea_or : ∀ d : Nat, d < 64 → bits .or .u8 ((d : Int) * 4) 1 = ((4 * d + 1 : Nat) : Int) ∧ bits .or .u8 ((4 * d + 1 : Nat) : Int) 2 = ((4 * d + 3 : Nat) : Int) := by decide +kernel
theorem ea_and : ∀ a : Nat, a < 256 → bits .and .u8 (a : Int) 1 = ((a % 2 : Nat) : Int) ∧ (bits .and .u8 (a : Int) 2 != 0) = decide (a / 2 % 2 = 1) := by decide +kernel

set_option maxHeartbeats 1000000 in
theorem address_any (d : Nat) (b : Bool) (w : World) (h : d ≤ 255) :
    Calls Tryd.prog 27 #[.int .u8 (d : Int), .bool b] w fun e w' => e = .returned (.int .u8 (eaA d b : Nat)) ∧ w = w' := by
  by_cases hd : 63 < d
  · have he : eaA d b = 0 := by unfold eaA; rw [if_pos hd]
    rw [he]
    go_enter Tryd.func27, Tryd.ntmps27
    go_wp2
    go_ret
    exact ⟨rfl, rfl⟩
  · obtain ⟨h1, h2⟩ := ea_or d (by omega)
    have he : eaA d b = if b then 4 * d + 3 else 4 * d + 1 := by unfold eaA; rw [if_neg hd]; cases b <;> simp
    rw [he]
    generalize hX : 4 * d + 1 = X at h1 h2 ⊢
    generalize hY : 4 * d + 3 = Y at h2 ⊢
    have HX := hide hX
    have HY := hide hY
    clear he hX hY
    cases b
    all_goals
      go_enter Tryd.func27, Tryd.ntmps27
      go_wp2
      go_ret
      exact ⟨rfl, rfl⟩
set_option maxHeartbeats 1000000 in
theorem split_addr (a : Nat) (w : World) (h : a ≤ 255) :
    Calls Tryd.prog 41 #[.int .u8 (a : Int)] w fun e w' => e = esR a ∧ w = w' := by
  obtain ⟨h1, h2⟩ := ea_and a (by omega)
  by_cases h0 : a % 2 = 0
  · have he : esR a = .returned (.tuple #[.int .u8 0, .bool false, .bool false]) := by unfold esR; rw [if_pos h0]
    rw [he]
    rw [h0] at h1
    clear he h2
    go_enter Tryd.func41, Tryd.ntmps41
    go_wp2
    go_ret3
    exact ⟨rfl, rfl⟩
  · have he : esR a = .returned (.tuple #[.int .u8 ((a / 4 : Nat) : Int), .bool (decide (a / 2 % 2 = 1)), .bool true]) := by unfold esR; rw [if_neg h0]
    rw [he]
    rw [show a % 2 = 1 by omega] at h1
    generalize decide (a / 2 % 2 = 1) = B at h2 ⊢
    clear he
    go_enter Tryd.func41, Tryd.ntmps41
    go_wp2
    go_ret3
    exact ⟨rfl, rfl⟩

theorem eaA_hit (a d k : Nat) (hd : d < 64) (hk : k < 2) : (((eaA d ((k : Int) == 1) : Nat) : Int) == (a : Int)) = decide (a % 2 = 1 ∧ 2 * d + k = a / 2) := by
  have he : eaA d ((k : Int) == 1) = 4 * d + 2 * k + 1 := by
    unfold eaA
    rw [if_neg (by omega)]
    rcases (show k = 0 ∨ k = 1 by omega) with rfl | rfl <;> simp
  rw [he, Bool.eq_iff_iff, beq_iff_eq, decide_eq_true_iff]
  omega
end Go.Proofs.YtnnimkailajgaaaDoor
