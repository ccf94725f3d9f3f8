/- The walks of chapter 3's reference's Put, and of the small tests. -/
import Derived.Test.YtfggjmdjcjhjfaaDoorFieldWalks
namespace Go.Proofs.YtfggjmdjcjhjfaaDoor
open Go.RowKit
set_option linter.unusedVariables false
set_option linter.unusedSimpArgs false

theorem ret2_int {a b : Int} {k : IntKind} {v : Value} (h : a = b) : Ending.returned (.tuple #[.int k a, v]) = .returned (.tuple #[.int k b, v]) := by rw [h]

set_option maxHeartbeats 1000000 in
theorem roctet_any (k : Nat) (w : World) (h1 : 1 ≤ k) (h2 : k ≤ 10) :
    Calls Tryd.prog 48 #[.int .u8 (k : Int)] w fun e w' => e = .returned (.int .i64 (octT.getD k 0 : Nat)) ∧ w = w' := by
  obtain rfl | rfl | rfl | rfl | rfl | rfl | rfl | rfl | rfl | rfl : k = 1 ∨ k = 2 ∨ k = 3 ∨ k = 4 ∨ k = 5 ∨ k = 6 ∨ k = 7 ∨ k = 8 ∨ k = 9 ∨ k = 10 := by omega
  all_goals (
    clear h1 h2
    go_enter Tryd.func48, Tryd.ntmps48
    go_wp2
    go_ret
    exact ⟨rfl, rfl⟩)

set_option maxHeartbeats 1000000 in
theorem rnumbered_any (k : Nat) (w : World) (h1 : 1 ≤ k) (h2 : k ≤ 10) :
    Calls Tryd.prog 47 #[.int .u8 (k : Int)] w fun e w' => e = .returned (.bool (decide (7 ≤ k))) ∧ w = w' := by
  obtain rfl | rfl | rfl | rfl | rfl | rfl | rfl | rfl | rfl | rfl : k = 1 ∨ k = 2 ∨ k = 3 ∨ k = 4 ∨ k = 5 ∨ k = 6 ∨ k = 7 ∨ k = 8 ∨ k = 9 ∨ k = 10 := by omega
  all_goals (
    clear h1 h2
    go_enter Tryd.func47, Tryd.ntmps47
    go_wp2
    go_ret
    exact ⟨rfl, rfl⟩)
theorem rnumbered_no (k : Nat) (w : World) (h1 : 1 ≤ k) (h2 : k < 7) :
    Calls Tryd.prog 47 #[.int .u8 (k : Int)] w fun e w' => e = .returned (.bool false) ∧ w = w' := by
  have := rnumbered_any k w h1 (by omega)
  rw [decide_eq_false (by omega)] at this; exact this
theorem rnumbered_yes (k : Nat) (w : World) (h1 : 7 ≤ k) (h2 : k ≤ 10) :
    Calls Tryd.prog 47 #[.int .u8 (k : Int)] w fun e w' => e = .returned (.bool true) ∧ w = w' := by
  have := rnumbered_any k w (by omega) (by omega)
  rw [decide_eq_true (by omega)] at this; exact this

set_option maxHeartbeats 1000000 in
theorem rput_any (k : Nat) (p : Bool) (s r : Nat) (w : World) (h1 : k ≤ 255) (h2 : s ≤ 255) (h3 : r ≤ 255) :
    Calls Tryd.prog 35 #[.int .u8 (k : Int), .bool p, .int .u8 (s : Int), .int .u8 (r : Int)] w fun e w' => e = putR k p s r ∧ w = w' := by
  by_cases c1 : k < 1
  · rw [putR_bad p (by omega)]
    go_enter Tryd.func35, Tryd.ntmps35
    go_wp2
    go_ret2
    exact ⟨rfl, rfl⟩
  by_cases c2 : 10 < k
  · rw [putR_bad p (by omega)]
    go_enter Tryd.func35, Tryd.ntmps35
    go_wp2
    go_ret2
    exact ⟨rfl, rfl⟩
  by_cases c3 : 7 < s
  · rw [putR_bad p (by omega)]
    go_enter Tryd.func35, Tryd.ntmps35
    go_wp2
    go_ret2
    exact ⟨rfl, rfl⟩
  by_cases c4 : 7 < r
  · rw [putR_bad p (by omega)]
    go_enter Tryd.func35, Tryd.ntmps35
    go_wp2
    go_ret2
    exact ⟨rfl, rfl⟩
  by_cases c5 : 0 < s ∧ k ≠ 7
  · rw [putR_bad p (by omega)]
    have c6 : ((k : Int) != 7) = true := by rw [bne_iff_ne]; omega
    have c7 : ((s : Int) != 0) = true := by rw [bne_iff_ne]; omega
    clear c5
    go_enter Tryd.func35, Tryd.ntmps35
    go_wp2
    go_ret2
    exact ⟨rfl, rfl⟩
  by_cases c6 : 0 < r ∧ k < 7
  · rw [putR_bad p (by omega)]
    obtain rfl : s = 0 := by omega
    have c7 : ((r : Int) != 0) = true := by rw [bne_iff_ne]; omega
    obtain ⟨c8, c10⟩ := c6
    clear c5
    go_enter Tryd.func35, Tryd.ntmps35
    go_wp2_with fail
    refine (rnumbered_no k _ (by omega) c10).mono ?_
    rintro e w' ⟨rfl, rfl⟩
    go_wp2
    go_ret2
    exact ⟨rfl, rfl⟩
  have hok : putOk k s r = true := decide_eq_true (by omega)
  have hz := octT_lt k
  have hl0 := putN_lt true hok
  have HN : putN k true s r = octT.getD k 0 + 2 * s + 32 * r + 16 := rfl
  rw [HN] at hl0
  clear HN
  have HP := hide (show ∀ p, putN k p s r = octT.getD k 0 + 2 * s + 32 * r + (if p then 16 else 0) from fun _ => rfl)
  rw [putR_ok p hok]
  have hk1 : 1 ≤ k := by omega
  have hk10 : k ≤ 10 := by omega
  have HO := hide (show ∀ w, Calls Tryd.prog 48 #[.int .u8 (k : Int)] w fun e w' => e = .returned (.int .i64 (octT.getD k 0 : Nat)) ∧ w = w' from fun w => roctet_any k w hk1 hk10)
  generalize octT.getD k 0 = z at HP HO hz hl0
  by_cases d1 : s = 0
  · subst d1
    by_cases d2 : r = 0
    · subst d2
      clear c5 c6 hok
      go_enter Tryd.func35, Tryd.ntmps35
      go_wp2_with fail
      refine (HO.out _).mono ?_
      rintro e w' ⟨rfl, rfl⟩
      cases p
      · go_wp2
        go_ret2
        exact ⟨ret2_int (by rw [HP.out]; simp), rfl⟩
      · go_wp2
        go_ret2
        exact ⟨ret2_int (by rw [HP.out]; simp), rfl⟩
    · have h7 : 7 ≤ k := by omega
      clear c5 c6 hok
      go_enter Tryd.func35, Tryd.ntmps35
      go_wp2_with fail
      refine (rnumbered_yes k _ h7 hk10).mono ?_
      rintro e w' ⟨rfl, rfl⟩
      go_wp2_with fail
      refine (HO.out _).mono ?_
      rintro e w' ⟨rfl, rfl⟩
      cases p
      · go_wp2
        go_ret2
        exact ⟨ret2_int (by rw [HP.out]; simp), rfl⟩
      · go_wp2
        go_ret2
        exact ⟨ret2_int (by rw [HP.out]; simp), rfl⟩
  · obtain rfl : k = 7 := by omega
    by_cases d2 : r = 0
    · subst d2
      clear c5 c6 hok
      go_enter Tryd.func35, Tryd.ntmps35
      go_wp2_with fail
      refine (HO.out _).mono ?_
      rintro e w' ⟨rfl, rfl⟩
      cases p
      · go_wp2
        go_ret2
        exact ⟨ret2_int (by rw [HP.out]; simp), rfl⟩
      · go_wp2
        go_ret2
        exact ⟨ret2_int (by rw [HP.out]; simp), rfl⟩
    · clear c5 c6 hok
      go_enter Tryd.func35, Tryd.ntmps35
      go_wp2_with fail
      refine (rnumbered_yes 7 _ (by omega) (by omega)).mono ?_
      rintro e w' ⟨rfl, rfl⟩
      go_wp2_with fail
      refine (HO.out _).mono ?_
      rintro e w' ⟨rfl, rfl⟩
      cases p
      · go_wp2
        go_ret2
        exact ⟨ret2_int (by rw [HP.out]; simp), rfl⟩
      · go_wp2
        go_ret2
        exact ⟨ret2_int (by rw [HP.out]; simp), rfl⟩

end Go.Proofs.YtfggjmdjcjhjfaaDoor
