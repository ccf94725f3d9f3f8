/- The walk of chapter 13's closed law SeqKnown: three loops of ten over the other laws' walks. -/
import Derived.Test.YtclijglnbolhbaaSeqWindow
namespace Go.Proofs.Ytclijglnbolhbaa
open Go.RowKit
set_option linter.unusedVariables false
set_option linter.unusedSimpArgs false

set_option maxHeartbeats 2000000 in
theorem seqKnown_any (w : World) :
    Calls Try.prog 7 #[] w fun e w' => e = .returned (.bool true) ∧ Below w.heap.size w w' := by
  go_enter Try.func7, Try.ntmps7
  go_wp2
  go_loopw [1] (fun t wr => ∃ k : Nat, k ≤ 10 ∧ t = .int .u8 k ∧ Below w.heap.size w wr) (fun t _ => 10 - (intOf t).toNat)
  case atStart => exact ⟨0, by omega, rfl, Below.refl _ _⟩
  case round =>
    obtain ⟨a, ha, rfl, hb⟩ := hrel
    obtain ⟨wa, rfl⟩ : ∃ wo : World, wo = wr := ⟨_, rfl⟩
    by_cases hla : a < 10
    · have da : decide ((a : Int) < 10) = true := by rw [decide_eq_true_eq]; omega
      go_wp2
      go_loopw [2] (fun t wr => ∃ k : Nat, k ≤ 10 ∧ t = .int .u8 k ∧ Below w.heap.size w wr) (fun t _ => 10 - (intOf t).toNat)
      case atStart => exact ⟨0, by omega, rfl, hb⟩
      case round =>
        clear hb
        obtain ⟨b, hbb, rfl, hb⟩ := hrel
        obtain ⟨wb, rfl⟩ : ∃ wo : World, wo = wr := ⟨_, rfl⟩
        by_cases hlb : b < 10
        · have db : decide ((b : Int) < 10) = true := by rw [decide_eq_true_eq]; omega
          go_wp2
          go_loopw [3] (fun t wr => ∃ k : Nat, k ≤ 10 ∧ t = .int .u8 k ∧ Below w.heap.size w wr) (fun t _ => 10 - (intOf t).toNat)
          case atStart => exact ⟨0, by omega, rfl, hb⟩
          case round =>
            clear hb
            obtain ⟨c, hcc, rfl, hb⟩ := hrel
            by_cases hlc : c < 10
            · go_wp2_with fail
              refine (seqAdd_any _ _ _ _ (by omega) (by omega) (by omega) (by omega) (by omega) (by omega)).mono ?_
              rintro e w1 ⟨rfl, hb1⟩
              go_wp2_with fail
              refine (seqWindow_any _ _ _ _ (by omega) (by omega) (by omega) (by omega) (by omega) (by omega)).mono ?_
              rintro e w2 ⟨rfl, hb2⟩
              go_wp2_with fail
              refine (seqAcks_any _ _ _ _ (by omega) (by omega) (by omega) (by omega) (by omega) (by omega)).mono ?_
              rintro e w3 ⟨rfl, hb3⟩
              go_wp2_with fail
              refine (seqWays_any _ _ _ _ (by omega) (by omega) (by omega) (by omega) (by omega) (by omega)).mono ?_
              rintro e w4 ⟨rfl, hb4⟩
              have hb5 : Below w.heap.size w w4 := below_step (below_step (below_step (below_step hb (Nat.le_refl _) hb1) (Nat.le_refl _) hb2) (Nat.le_refl _) hb3) (Nat.le_refl _) hb4
              clear hb hb1 hb2 hb3 hb4
              go_wp2
              go_roundw
              case rel => exact ⟨c + 1, by omega, by go_num, hb5⟩
              case measure => simp [intOf]; omega
            · go_wp2
              go_roundw
              case rel => exact ⟨b + 1, by omega, by go_num, hb⟩
              case measure => simp [intOf]; omega
        · go_wp2
          go_roundw
          case rel => exact ⟨a + 1, by omega, by go_num, hb⟩
          case measure => simp [intOf]; omega
    · go_wp2_with fail
      refine (seqAdd_any _ _ _ _ (by omega) (by omega) (by omega) (by omega) (by omega) (by omega)).mono ?_
      rintro e w1 ⟨rfl, hb1⟩
      go_wp2_with fail
      refine (seqAdd_any _ _ _ _ (by omega) (by omega) (by omega) (by omega) (by omega) (by omega)).mono ?_
      rintro e w2 ⟨rfl, hb2⟩
      go_wp2_with fail
      refine (seqWindow_any _ _ _ _ (by omega) (by omega) (by omega) (by omega) (by omega) (by omega)).mono ?_
      rintro e w3 ⟨rfl, hb3⟩
      go_wp2_with fail
      refine (seqWindow_any _ _ _ _ (by omega) (by omega) (by omega) (by omega) (by omega) (by omega)).mono ?_
      rintro e w4 ⟨rfl, hb4⟩
      go_wp2_with fail
      refine (works_any _).mono ?_
      rintro e w5 ⟨rfl, hb5⟩
      have hb6 : Below w.heap.size w w5 := below_step (below_step (below_step (below_step (below_step hb (Nat.le_refl _) hb1) (Nat.le_refl _) hb2) (Nat.le_refl _) hb3) (Nat.le_refl _) hb4) (Nat.le_refl _) hb5
      clear hb hb1 hb2 hb3 hb4 hb5
      go_wp2
      go_ret
      exact ⟨rfl, hb6⟩

end Go.Proofs.Ytclijglnbolhbaa
