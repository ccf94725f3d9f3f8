/- ea.Length and the reference's Length. -/
import Derived.Test.YtfggjmdjcjhjfaaDoorEaTake
namespace Go.Proofs.YtfggjmdjcjhjfaaDoor
open Go.RowKit
set_option linter.unusedVariables false
set_option linter.unusedSimpArgs false

/-- The octets of a length. -/
def lenL (n : Nat) : List Nat := if n < 128 then [2 * n + 1] else [2 * (n % 128), n / 128]
theorem lenL_bytes {n : Nat} (h : n ≤ 32767) : Bytes (lenL n) := by
  unfold lenL
  split
  · exact bytes_cons (by omega) bytes_nil
  · exact bytes_cons (by omega) (bytes_cons (by omega) bytes_nil)
theorem lenL_len (n : Nat) : (lenL n).length = if n < 128 then 1 else 2 := by unfold lenL; split <;> rfl

set_option maxHeartbeats 1000000 in
set_option maxRecDepth 100000 in
theorem rlength_any (n : Nat) (w : World) (hn : n ≤ 32767) :
    Calls Tryd.prog 36 #[.int .i64 (n : Int)] w fun e w' => e = .returned (.string (st (lenL n))) ∧ Below w.heap.size w w' := by
  by_cases h : n < 128
  · have hL : lenL n = [2 * n + 1] := by unfold lenL; rw [if_pos h]
    rw [hL]
    have hc := run_st w.heap.size 1 1 [2 * n + 1] (w.alloc (.cells #[.int .u8 (2 * (n : Int) + 1)] 5)) rfl (fun i hi => by
      obtain rfl : i = 0 := by omega
      exact World.cell?_alloc_new w #[.int .u8 (2 * (n : Int) + 1)] 5 0)
    have hlt : (n : Int) < 128 := by omega
    have HL := hide (rfl : st [2 * n + 1] = st [2 * n + 1])
    generalize st [2 * n + 1] = z at *
    clear hL
    go_enter Tryd.func36, Tryd.ntmps36
    go_wp2
    go_ret
    exact ⟨rfl, (Below.refl _ _).alloc (Nat.le_refl _) _⟩
  · obtain ⟨X, hX⟩ : ∃ X, 2 * (n % 128) = X := ⟨_, rfl⟩
    obtain ⟨Y, hY⟩ : ∃ Y, n / 128 = Y := ⟨_, rfl⟩
    have hL : lenL n = [X, Y] := by unfold lenL; rw [if_neg h, hX, hY]
    rw [hL]
    have e1 : 2 * ((n : Int) % 128) = (X : Int) := by omega
    have e2 : (n : Int) / 128 = (Y : Int) := by omega
    have hX2 : X ≤ 255 := by omega
    have hY2 : Y ≤ 255 := by omega
    have hc := run_st w.heap.size 2 2 [X, Y] (w.alloc (.cells #[.int .u8 (X : Int), .int .u8 (Y : Int)] 5)) rfl (fun i hi => by
      rw [Nat.zero_add]
      refine (World.cell?_alloc_new w #[.int .u8 (X : Int), .int .u8 (Y : Int)] 5 i).trans ?_
      rcases (show i = 0 ∨ i = 1 by omega) with rfl | rfl <;> rfl)
    have hlt : ¬ (n : Int) < 128 := by omega
    clear hL hX hY
    go_enter Tryd.func36, Tryd.ntmps36
    go_wp2
    go_ret
    exact ⟨rfl, (Below.refl _ _).alloc (Nat.le_refl _) _⟩
end Go.Proofs.YtfggjmdjcjhjfaaDoor
