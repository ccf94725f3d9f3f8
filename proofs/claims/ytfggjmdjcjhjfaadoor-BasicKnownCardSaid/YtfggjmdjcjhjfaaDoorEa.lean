/- The walks of ea.Address, ea.Split and of the reference's. -/
import Derived.Test.YtfggjmdjcjhjfaaDoorBase
namespace Go.Proofs.YtfggjmdjcjhjfaaDoor
open Go.RowKit
set_option linter.unusedVariables false
set_option linter.unusedSimpArgs false

/-- An address; what one tells. -/
def eaA (d : Nat) (b : Bool) : Nat := if 63 < d then 0 else 4 * d + (if b then 2 else 0) + 1
def esR (a : Nat) : Ending := if a % 2 = 0 then .returned (.tuple #[.int .u8 0, .bool false, .bool false]) else .returned (.tuple #[.int .u8 ((a / 4 : Nat) : Int), .bool (decide (a / 2 % 2 = 1)), .bool true])
theorem eaA_le (d : Nat) (b : Bool) : eaA d b ≤ 255 := by unfold eaA; split; omega; split <;> omega
theorem ea_or : ∀ d : Nat, d < 64 → bits .or .u8 ((d : Int) * 4) 1 = ((4 * d + 1 : Nat) : Int) ∧ bits .or .u8 ((4 * d + 1 : Nat) : Int) 2 = ((4 * d + 3 : Nat) : Int) := by decide +kernel
theorem ea_and : ∀ a : Nat, a < 256 → bits .and .u8 (a : Int) 1 = ((a % 2 : Nat) : Int) ∧ (bits .and .u8 (a : Int) 2 != 0) = decide (a / 2 % 2 = 1) := by decide +kernel

set_option maxHeartbeats 1000000 in
theorem address_any (d : Nat) (b : Bool) (w : World) (h : d ≤ 255) :
    Calls Tryd.prog 18 #[.int .u8 (d : Int), .bool b] w fun e w' => e = .returned (.int .u8 (eaA d b : Nat)) ∧ w = w' := by
  by_cases hd : 63 < d
  · have he : eaA d b = 0 := by unfold eaA; rw [if_pos hd]
    rw [he]
    go_enter Tryd.func18, Tryd.ntmps18
    go_wp2
    go_ret
    exact ⟨rfl, rfl⟩
  · obtain ⟨h1, h2⟩ := ea_or d (by omega)
    have he : eaA d b = if b then 4 * d + 3 else 4 * d + 1 := by unfold eaA; rw [if_neg hd]; cases b <;> simp
    rw [he]
    generalize hX : 4 * d + 1 = X at h1 h2 ⊢
    generalize hY : 4 * d + 3 = Y at h2 ⊢
    have HX := hide hX
    have HY := hide hY
    clear he hX hY
    cases b
    all_goals
      go_enter Tryd.func18, Tryd.ntmps18
      go_wp2
      go_ret
      exact ⟨rfl, rfl⟩
set_option maxHeartbeats 1000000 in
theorem split_addr (a : Nat) (w : World) (h : a ≤ 255) :
    Calls Tryd.prog 29 #[.int .u8 (a : Int)] w fun e w' => e = esR a ∧ w = w' := by
  obtain ⟨h1, h2⟩ := ea_and a (by omega)
  by_cases h0 : a % 2 = 0
  · have he : esR a = .returned (.tuple #[.int .u8 0, .bool false, .bool false]) := by unfold esR; rw [if_pos h0]
    rw [he]
    rw [h0] at h1
    clear he h2
    go_enter Tryd.func29, Tryd.ntmps29
    go_wp2
    go_ret3
    exact ⟨rfl, rfl⟩
  · have he : esR a = .returned (.tuple #[.int .u8 ((a / 4 : Nat) : Int), .bool (decide (a / 2 % 2 = 1)), .bool true]) := by unfold esR; rw [if_neg h0]
    rw [he]
    rw [show a % 2 = 1 by omega] at h1
    generalize decide (a / 2 % 2 = 1) = B at h2 ⊢
    clear he
    go_enter Tryd.func29, Tryd.ntmps29
    go_wp2
    go_ret3
    exact ⟨rfl, rfl⟩

theorem rbit_any (b : Bool) (w : World) : Calls Tryd.prog 43 #[.bool b] w fun e w' => e = .returned (.int .i64 (if b then 1 else 0)) ∧ w = w' := by
  cases b
  all_goals
    go_enter Tryd.func43, Tryd.ntmps43
    go_wp2
    go_ret
    exact ⟨rfl, rfl⟩
set_option maxHeartbeats 1000000 in
theorem raddress_any (d : Nat) (b : Bool) (w : World) (h : d ≤ 255) :
    Calls Tryd.prog 27 #[.int .u8 (d : Int), .bool b] w fun e w' => e = .returned (.int .u8 (eaA d b : Nat)) ∧ w = w' := by
  by_cases hd : 63 < d
  · have he : eaA d b = 0 := by unfold eaA; rw [if_pos hd]
    rw [he]
    go_enter Tryd.func27, Tryd.ntmps27
    go_wp2
    go_ret
    exact ⟨rfl, rfl⟩
  · have he : eaA d b = 4 * d + (if b then 2 else 0) + 1 := by unfold eaA; rw [if_neg hd]
    rw [he]
    clear he
    cases b
    all_goals
      go_enter Tryd.func27, Tryd.ntmps27
      go_wp2_with fail
      refine (rbit_any _ _).mono ?_
      rintro e w' ⟨rfl, rfl⟩
      go_wp2
      go_ret
      exact ⟨ret_int (by simp), rfl⟩

theorem eaA_hit (a d k : Nat) (hd : d < 64) (hk : k < 2) : (((eaA d ((k : Int) == 1) : Nat) : Int) == (a : Int)) = decide (a % 2 = 1 ∧ 2 * d + k = a / 2) := by
  have he : eaA d ((k : Int) == 1) = 4 * d + 2 * k + 1 := by
    unfold eaA
    rw [if_neg (by omega)]
    rcases (show k = 0 ∨ k = 1 by omega) with rfl | rfl <;> simp
  rw [he, Bool.eq_iff_iff, beq_iff_eq, decide_eq_true_iff]
  omega
set_option maxHeartbeats 2000000 in
theorem rsplit_addr (a : Nat) (w : World) (h : a ≤ 255) :
    Calls Tryd.prog 33 #[.int .u8 (a : Int)] w fun e w' => e = esR a ∧ w = w' := by
  go_enter Tryd.func33, Tryd.ntmps33
  go_wp2
  go_loop [5] (fun x => ∃ d : Nat, d ≤ 64 ∧ x = .int .u8 (d : Int) ∧ (a % 2 = 1 → d ≤ a / 4)) (fun x => 64 - (intOf x).toNat)
  case atStart => exact ⟨0, by omega, rfl, fun _ => by omega⟩
  case round =>
    obtain ⟨d, hd, rfl, hn⟩ := hrel
    by_cases hlt : d < 64
    · have e3 : (d : Int) < 64 := by omega
      have HN := hide hn
      clear hn
      go_wp2
      go_loop [6] (fun x => ∃ k : Nat, k ≤ 2 ∧ x = .int .i64 (k : Int) ∧ (a % 2 = 1 → 2 * d + k ≤ a / 2)) (fun x => 2 - (intOf x).toNat)
      case atStart => exact ⟨0, by omega, rfl, fun h1 => by have := HN.out h1; omega⟩
      case round =>
        obtain ⟨k, hk, rfl, hn⟩ := hrel
        by_cases hkl : k < 2
        · have e4 : (k : Int) < 2 := by omega
          have ht := eaA_hit a d k hlt hkl
          have HH := hide hn
          clear hn
          by_cases hit : a % 2 = 1 ∧ 2 * d + k = a / 2
          · rw [decide_eq_true hit] at ht
            have he : esR a = .returned (.tuple #[.int .u8 (d : Int), .bool ((k : Int) == 1), .bool true]) := by
              unfold esR
              rw [if_neg (by omega), show a / 4 = d by omega]
              congr 4
              rw [show decide (a / 2 % 2 = 1) = ((k : Int) == 1) by rw [Bool.eq_iff_iff, beq_iff_eq, decide_eq_true_iff]; omega]
            have HR := hide he
            clear he
            generalize hB : ((k : Int) == 1) = B at ht HR
            generalize hE : eaA d B = E at ht
            have HE := hide hE
            clear hE hit
            go_wp2_with fail
            refine (raddress_any _ _ _ (by omega)).mono ?_
            rintro e w' ⟨rfl, rfl⟩
            rw [HE.out]
            go_wp2
            go_ret3
            exact ⟨HR.out.symm, rfl⟩
          · rw [decide_eq_false hit] at ht
            have HI := hide hit
            generalize hB : ((k : Int) == 1) = B at ht
            generalize hE : eaA d B = E at ht
            have HE := hide hE
            clear hE hit
            go_wp2_with fail
            refine (raddress_any _ _ _ (by omega)).mono ?_
            rintro e w' ⟨rfl, rfl⟩
            rw [HE.out]
            go_wp2
            go_round
            case rel => exact ⟨k + 1, by omega, by go_num, fun h1 => by have := HH.out h1; have := HI.out; omega⟩
            case measure => simp [intOf]; omega
        · obtain rfl : k = 2 := by omega
          go_wp2
          go_round
          case rel => exact ⟨d + 1, by omega, by go_num, fun h1 => by have := hn h1; omega⟩
          case measure => simp [intOf]; omega
    · obtain rfl : d = 64 := by omega
      have he : esR a = .returned (.tuple #[.int .u8 0, .bool false, .bool false]) := by
        unfold esR
        rw [if_pos]
        by_cases h1 : a % 2 = 1
        · have := hn h1; omega
        · omega
      have HR := hide he
      clear he hn
      go_wp2
      go_ret3
      exact ⟨HR.out.symm, rfl⟩

end Go.Proofs.YtfggjmdjcjhjfaaDoor
