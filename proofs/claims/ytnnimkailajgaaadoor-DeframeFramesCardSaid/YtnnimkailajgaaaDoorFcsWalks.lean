/- The walks of package fcs and of its reference: what each call answers, in the words of the plain facts. 'Half w': the table lies there as the program's text lays it. -/
import Derived.Test.YtnnimkailajgaaaDoorFcsPlain
namespace Go.Proofs.YtnnimkailajgaaaDoor
open Go.RowKit
set_option linter.unusedVariables false
set_option linter.unusedSimpArgs false

/-- The table is there. -/
def Half (w : World) : Prop := ∀ i, i < 16 → w.cell? ⟨1, i, none⟩ = some (.int .u8 (halfT.getD i 0 : Nat))
theorem Half.lt {w : World} (h : Half w) : 1 < w.heap.size := World.block_lt_of_cell? w ⟨1, 0, none⟩ (h 0 (by omega))
theorem Half.below {w w' : World} (h : Half w) (hb : Below w.heap.size w w') : Half w' := fun i hi => by rw [hb.cell (p := ⟨1, i, none⟩) h.lt]; exact h i hi
theorem Half.drewN {w : World} (h : Half w) (n : Nat) : Half (w.drewN n) := h

set_option maxHeartbeats 400000 in
theorem fstep_any (a b : Int) (w : World) (hh : Half w) (h1 : 0 ≤ a) (h2 : a ≤ 255) (h3 : 0 ≤ b) (h4 : b ≤ 255) :
    Calls Tryd.prog 48 #[.int .u8 a, .int .u8 b] w fun e w' => e = .returned (.int .u8 (fS (a.toNat ^^^ b.toNat) : Nat)) ∧ w = w' := by
  obtain ⟨x, hx, hx2⟩ : ∃ x, a.toNat ^^^ b.toNat = x ∧ x < 256 := ⟨_, rfl, xor_lt (by omega) (by omega)⟩
  have hxor := u8_xor a b h1 (by omega) h3 (by omega)
  rw [hx] at hxor ⊢
  go_enter Tryd.func48, Tryd.ntmps48
  go_wp2
  go_loop [5, 9] (fun r i => ∃ k : Nat, k ≤ 2 ∧ i = .int .i64 k ∧ r = .int .u8 (fHn k x : Nat)) (fun _ i => 2 - (intOf i).toNat)
  case atStart => exact ⟨0, by omega, rfl, rfl⟩
  case round =>
    obtain ⟨k, hk, rfl, rfl⟩ := hrel
    obtain ⟨y, hy, hy2⟩ : ∃ y, fHn k x = y ∧ y < 256 := ⟨_, rfl, fHn_lt k x hx2⟩
    rw [hy]
    by_cases hlt : k < 2
    · have hc := hh (y % 16) (by omega)
      have hz : halfT.getD (y % 16) 0 < 256 := (show ∀ i, i < 16 → halfT.getD i 0 < 256 by decide) _ (by omega)
      have hs : fHn (k + 1) x = (y / 16) ^^^ (halfT.getD (y % 16) 0) := by show fH (fHn k x) = _; rw [hy]; rfl
      obtain ⟨z, hz1⟩ : ∃ z, halfT.getD (y % 16) 0 = z := ⟨_, rfl⟩
      rw [hz1] at hc hz hs
      have hxx : bits .xor .u8 ((y : Int) / 16) (z : Int) = ((y / 16 ^^^ z : Nat) : Int) := u8_xor_nat (y / 16) z (by omega) hz
      have HS := hide hs
      have HY := hide hy
      clear hz1 hs hy hxor hx
      go_wp2
      go_round
      case rel => exact ⟨k + 1, by omega, by go_num, by rw [HS.out]⟩
      case measure => simp [intOf]; omega
    · have HY := hide hy
      clear hy hxor hx
      go_wp2
      go_ret
      refine ⟨ret_int ?_, rfl⟩
      obtain rfl : k = 2 := by omega
      rw [← HY.out]; rfl

end Go.Proofs.YtnnimkailajgaaaDoor
