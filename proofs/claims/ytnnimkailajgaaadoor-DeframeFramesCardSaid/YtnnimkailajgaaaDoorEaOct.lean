/- ea.octets and ea.Length. -/
import Derived.Test.YtnnimkailajgaaaDoorEaLen
import Derived.OwnWalk
namespace Go.Proofs.YtnnimkailajgaaaDoor
open Go.RowKit
set_option linter.unusedVariables false
set_option linter.unusedSimpArgs false

structure OctAt (w : World) (g h n : Nat) (l : List Nat) (k : Nat) (wr : World) : Prop where
  row : wr.ownsRow w.heap.size 5 1 (.slice (some ⟨h, 0, none⟩) k n) k (u8s (l.take k))
  below : Below w.heap.size w wr

set_option maxRecDepth 100000 in
set_option maxHeartbeats 2000000 in
theorem octets_any (l : List Nat) (n g : Nat) (w : World) (hl : Bytes l) (hn : l.length = n) (hn2 : n ≤ 1000) (hg : g < w.heap.size) (hc : ∀ j, j < l.length → w.cell? ⟨g, j, none⟩ = some (.int .i64 (l.getD j 0 : Nat))) :
    Calls Tryd.prog 46 #[.slice (some ⟨g, 0, none⟩) n n] w fun e w' => e = .returned (.string (st l)) ∧ Below w.heap.size w w' := by
  obtain ⟨i0, hi, hz0, hz1, hz2⟩ := info_parts u8row
  have HN := hide hn
  have HC := hide hc
  clear hn hc
  go_enter Tryd.func46, Tryd.ntmps46
  go_wp2_with (at_make; refine wpList_make_own _ rfl (.const (.int .i64 0)) (.tmp 7) 42 rfl w.heap.size 5 i0 (.int .u8 0) 1 Tryd.underlying42 hi hz0 hz1 .i64 .i64 (n : Int) n rfl rfl rfl (by rw [hz2]; omega) (by unfold maxLen; omega) (Nat.le_refl _) ?_; intro w1 r1 g1)
  have hB1 : Below w.heap.size w w1 := (Below.refl _ _).grown g1 (Nat.le_refl _) (fun j ej => by cases ej)
  go_loopw [3, 11] (fun v i wr => ∃ k : Nat, k ≤ n ∧ i = .int .i64 (k : Int) ∧ v = .slice (some ⟨w.heap.size, 0, none⟩) k n ∧ OctAt w g w.heap.size n l k wr) (fun _ i _ => n - (intOf i).toNat)
  case atStart => exact ⟨0, by omega, rfl, rfl, ⟨by simpa [u8s] using r1, hB1⟩⟩
  case round =>
    obtain ⟨k, hk, rfl, rfl, hP⟩ := hrel
    by_cases hkm : k < n
    · have hkl : k < l.length := by rw [HN.out]; exact hkm
      have hcell := (World.cell?_of_block (a := ⟨g, k, none⟩) (hP.below.block g hg)).trans (HC.out k hkl)
      have hx : l.getD k 0 ≤ 255 := by have := bytes_getD hl k; omega
      have htk := take_succ_getD l k hkl
      generalize l.getD k 0 = x at *
      have hkm' : (k : Int) < (n : Int) := by omega
      have hrow := hP.row
      have hbs := hP.below.size
      have HT := hide htk
      have HP := hide hP
      clear htk hP
      go_wp2_with (at_builtin; refine wpList_append_fits _ rfl (.tmp 15) (.tmp 18) 42 rfl w.heap.size 5 i0 1 Tryd.underlying42 hi hz1 w.heap.size k n _ rfl (hrow.alloc _) ⟨wr.heap.size, 0, none⟩ 1 1 [.int .u8 (x : Int)] rfl rfl (cell_one_new _ _ _) (by simp [Value.oneCell']) (by omega) ?_; intro w2 r2 g2)
      have hb2 : Below w.heap.size wr w2 := own8_grown hrow hbs g2
      go_roundw
      case rel => exact ⟨k + 1, hkm, by go_num, rfl, ⟨by rw [HT.out, u8s_append]; exact r2, HP.out.below.trans hb2⟩⟩
      case measure => simp [intOf]; omega
    · obtain rfl : k = n := by omega
      have hrow := hP.row
      rw [List.take_of_length_le (by rw [HN.out]; exact Nat.le_refl _)] at hrow
      have hcv := run_own hrow hl
      go_wp2
      go_ret
      exact ⟨rfl, hP.below⟩

set_option maxHeartbeats 1000000 in
set_option maxRecDepth 100000 in
theorem length_any (n : Nat) (w : World) (hn : n ≤ 32767) :
    Calls Tryd.prog 36 #[.int .i64 (n : Int)] w fun e w' => e = .returned (.string (st (lenL n))) ∧ Below w.heap.size w w' := by
  have hB := lenL_bytes hn
  by_cases h : n < 128
  · have hL : lenL n = [2 * n + 1] := by unfold lenL; rw [if_pos h]
    rw [hL] at hB ⊢
    have e1 : bits .or .i64 ((n : Int) * 2) 1 = ((2 * n + 1 : Nat) : Int) := by
      have := i64_or_nat (2 * n) 1 (by omega) (by omega)
      rw [show ((n : Int) * 2) = ((2 * n : Nat) : Int) by omega]
      rw [show (2 * n ||| 1 : Nat) = 2 * n + 1 by have := Nat.two_pow_add_eq_or_of_lt (i := 1) (b := 1) (by omega) n; simp only [Nat.pow_one] at this; omega] at this
      exact this
    have hX : 2 * n + 1 ≤ 255 := by omega
    have hlt : (n : Int) ≤ 127 := by omega
    have HO := hide (fun (W : World) => octets_any [2 * n + 1] 1 W.heap.size (W.alloc (.cells #[.int .i64 ((2 * n + 1 : Nat) : Int)] 3)) hB rfl (by omega) (by simp) (fun j hj => by
      obtain rfl : j = 0 := by simp at hj; omega
      exact World.cell?_alloc_new W _ _ 0))
    generalize 2 * n + 1 = X at *
    clear hL hB
    go_enter Tryd.func36, Tryd.ntmps36
    go_wp2_with fail
    refine (HO.out w).mono ?_
    rintro e w' ⟨rfl, hb⟩
    go_wp2
    go_ret
    exact ⟨rfl, below_step ((Below.refl _ _).alloc (Nat.le_refl _) _) (Nat.le_refl _) hb⟩
  · obtain ⟨X, hX⟩ : ∃ X, 2 * (n % 128) = X := ⟨_, rfl⟩
    obtain ⟨Y, hY⟩ : ∃ Y, n / 128 = Y := ⟨_, rfl⟩
    have hL : lenL n = [X, Y] := by unfold lenL; rw [if_neg h, hX, hY]
    rw [hL] at hB ⊢
    obtain ⟨Z, hZ⟩ : ∃ Z, n % 128 = Z := ⟨_, rfl⟩
    have e1 : bits .and .i64 (n : Int) 127 = (Z : Int) := by
      have := i64_and_nat n 127 (by omega) (by omega)
      rw [show (n &&& 127 : Nat) = Z by have := Nat.and_two_pow_sub_one_eq_mod n 7; simp only [Nat.reducePow, Nat.reduceSub] at this; omega] at this
      exact this
    have e2 : (Z : Int) * 2 = (X : Int) := by omega
    have e3 : (n : Int) / 128 = (Y : Int) := by omega
    have hz : Z ≤ 127 := by omega
    have hX2 : X ≤ 255 := by omega
    have hY2 : Y ≤ 255 := by omega
    have HO := hide (fun (W : World) => octets_any [X, Y] 2 W.heap.size (W.alloc (.cells #[.int .i64 (X : Int), .int .i64 (Y : Int)] 3)) hB rfl (by omega) (by simp) (fun j hj => by
      refine (World.cell?_alloc_new W #[.int .i64 (X : Int), .int .i64 (Y : Int)] 3 j).trans ?_
      simp at hj
      rcases (show j = 0 ∨ j = 1 by omega) with rfl | rfl <;> rfl))
    have hlt : ¬ (n : Int) ≤ 127 := by omega
    clear hL hX hY hZ hB
    go_enter Tryd.func36, Tryd.ntmps36
    go_wp2_with fail
    refine (HO.out w).mono ?_
    rintro e w' ⟨rfl, hb⟩
    go_wp2
    go_ret
    exact ⟨rfl, below_step ((Below.refl _ _).alloc (Nat.le_refl _) _) (Nat.le_refl _) hb⟩
end Go.Proofs.YtnnimkailajgaaaDoor
