/- The walks of chapter 13 over slices: 'same' of two equal rows, seq.Window, and the reference's Window and In. -/
import Derived.Test.YtclijglnbolhbaaSeqRef
namespace Go.Proofs.Ytclijglnbolhbaa
open Go.RowKit
set_option linter.unusedVariables false
set_option linter.unusedSimpArgs false

set_option maxHeartbeats 400000 in
theorem same_any (a1 a2 : Option Addr) (n c1 c2 : Nat) (l : List Int) (w : World) (hn : n ≤ 1000000) (h1 : Holds8 w a1 n l) (h2 : Holds8 w a2 n l) :
    Calls Try.prog 15 #[.slice a1 n c1, .slice a2 n c2] w fun e w' => e = .returned (.bool true) ∧ ∃ k, w' = w.drewN k := by
  have H1 := hide h1
  have H2 := hide h2
  clear h1 h2
  go_enter Try.func15, Try.ntmps15
  go_wp2
  go_loopw [5] (fun i wr => ∃ k m : Nat, k ≤ n ∧ i = .int .i64 k ∧ wr = w.drewN m) (fun i _ => n - (intOf i).toNat)
  case atStart => exact ⟨0, 0, by omega, rfl, rfl⟩
  case round =>
    obtain ⟨k, m, hk, rfl, rfl⟩ := hrel
    by_cases hlt : k < n
    · obtain ⟨g1, o1, rfl, _, hg1⟩ := H1.out (by omega)
      obtain ⟨g2, o2, rfl, _, hg2⟩ := H2.out (by omega)
      have hc1 := hg1 k hlt
      have hc2 := hg2 k hlt
      clear hg1 hg2
      go_wp2
      go_quiet (fail)
      go_wp2
      go_roundw
      case rel => exact ⟨k + 1, _, by omega, by go_num, rfl⟩
      case measure => simp [intOf]; omega
    · go_wp2
      go_ret
      exact ⟨rfl, _, rfl⟩

set_option maxHeartbeats 1000000 in
theorem window_any (a n : Int) (w : World) (h1 : 0 ≤ a) (h2 : a ≤ 255) :
    Calls Try.prog 14 #[.int .u8 a, .int .i64 n] w fun e w' =>
      ∃ v, e = .returned v ∧ w'.ownsRow w.heap.size 5 1 v (sz n).toNat ((win a (sz n).toNat).map (Value.int .u8)) ∧ Below w.heap.size w w' := by
  obtain ⟨i0, hi, hz0, hz1, hz2⟩ := info_parts u8row
  have hs := sz_bd n
  go_enter Try.func14, Try.ntmps14
  go_wp2_with (go_at_call 24; refine (size_any _ _).mono ?_; rintro e w' ⟨rfl, rfl⟩)
  go_loopw [5, 9] (fun v i wr => ∃ k : Nat, (k : Int) ≤ sz n ∧ i = .int .i64 k ∧ wr.ownsRow w.heap.size 5 1 v k ((win a k).map (Value.int .u8)) ∧ Below w.heap.size w wr) (fun _ i _ => (sz n - intOf i).toNat)
  case atStart => exact ⟨0, by omega, rfl, World.ownsRow_nil _ _ _ _, Below.refl _ _⟩
  case round =>
    obtain ⟨k, hk, rfl, hown, hb⟩ := hrel
    have hz := hb.size
    by_cases hlt : (k : Int) < sz n
    · go_wp2_with (first | (go_at_call 8; refine (add_any _ _ _ (by omega) (by omega)).mono ?_; rintro e w' ⟨rfl, rfl⟩) | (at_builtin; refine wpList_append_own _ rfl _ _ 26 rfl w.heap.size 5 i0 (.int .u8 0) 1 1 Try.underlying26 hi hz0 hz1 hz2 rfl (by decide) _ _ _ rfl (hown.alloc _) ⟨wr.heap.size, 0, none⟩ 1 1 [.int .u8 (ad a k)] rfl rfl (cell_one_new _ _ _) (by intro u hu; simp at hu; subst hu; rfl) (by unfold maxLen; omega) (by omega) (by simp; omega) ?_))
      intro v' w1 hown' hgrow _
      have hown2 : w1.ownsRow w.heap.size 5 1 v' (k + 1) ((win a (k + 1)).map (Value.int .u8)) := by
        rw [win_succ]; simpa [ad] using hown'
      have hb2 : Below w.heap.size w w1 := (hb.alloc hz _).grown hgrow (by simp; omega) (fun j hj => (hown.lt j hj).1)
      clear hown' hgrow hown hb
      go_wp2
      go_roundw
      case rel => exact ⟨k + 1, by omega, by go_num, hown2, hb2⟩
      case measure => simp [intOf]; omega
    · go_wp2
      go_ret
      obtain rfl : k = (sz n).toNat := by omega
      exact ⟨_, rfl, hown, hb⟩

theorem sz_facts (n : Int) : (sz n ≤ n ∨ n < 0) ∧ (∀ k : Int, 0 ≤ k → k < sz n → k < n ∧ k < 7) ∧ (∀ k : Int, 0 ≤ k → k < n → k < 7 → k < sz n) := by
  unfold sz
  refine ⟨?_, fun k h0 hk => ?_, fun k h0 h1 h2 => ?_⟩ <;> (repeat (split at *)) <;> omega

set_option maxHeartbeats 1000000 in
theorem rwindow_any (a n : Int) (w : World) (h1 : 0 ≤ a) (h2 : a ≤ 255) :
    Calls Try.prog 13 #[.int .u8 a, .int .i64 n] w fun e w' =>
      ∃ v, e = .returned v ∧ w'.ownsRow w.heap.size 5 1 v (sz n).toNat ((win a (sz n).toNat).map (Value.int .u8)) ∧ Below w.heap.size w w' := by
  obtain ⟨i0, hi, hz0, hz1, hz2⟩ := info_parts u8row
  have hs := sz_bd n
  go_enter Try.func13, Try.ntmps13
  go_wp2
  go_loopw [5, 6, 7] (fun v x i wr => ∃ k : Nat, (k : Int) ≤ sz n ∧ i = .int .i64 k ∧ x = .int .u8 ((a + k) % 8) ∧ wr.ownsRow w.heap.size 5 1 v k ((win a k).map (Value.int .u8)) ∧ Below w.heap.size w wr) (fun _ _ i _ => (sz n - intOf i).toNat)
  case atStart => exact ⟨0, by omega, rfl, by go_num, World.ownsRow_nil _ _ _ _, Below.refl _ _⟩
  case round =>
    obtain ⟨k, hk, rfl, rfl, hown, hb⟩ := hrel
    have hz := hb.size
    by_cases hlt : (k : Int) < sz n
    · obtain ⟨hl1, hl2⟩ := (sz_facts n).2.1 k (by omega) hlt
      go_wp2_with (first | (go_at_call 22; refine (rnext_any _ _ (by omega) (by omega)).mono ?_; rintro e w' ⟨rfl, rfl⟩) | (at_builtin; refine wpList_append_own _ rfl _ _ 26 rfl w.heap.size 5 i0 (.int .u8 0) 1 1 Try.underlying26 hi hz0 hz1 hz2 rfl (by decide) _ _ _ rfl (hown.alloc _) ⟨wr.heap.size, 0, none⟩ 1 1 [.int .u8 ((a + k) % 8)] rfl rfl (cell_one_new _ _ _) (by intro u hu; simp at hu; subst hu; rfl) (by unfold maxLen; omega) (by omega) (by simp; omega) ?_))
      intro v' w1 hown' hgrow _
      have hown2 : w1.ownsRow w.heap.size 5 1 v' (k + 1) ((win a (k + 1)).map (Value.int .u8)) := by
        rw [win_succ]; simpa using hown'
      have hb2 : Below w.heap.size w w1 := (hb.alloc hz _).grown hgrow (by simp; omega) (fun j hj => (hown.lt j hj).1)
      clear hown' hgrow hown hb
      go_wp2_with (go_at_call 22; refine (rnext_any _ _ (by omega) (by omega)).mono ?_; rintro e w' ⟨rfl, rfl⟩)
      go_roundw
      case rel => exact ⟨k + 1, by omega, by go_num, by go_num, hown2, hb2⟩
      case measure => simp [intOf]; omega
    · have hn2 := (sz_facts n).2.2 k (by omega)
      by_cases hl1 : (k : Int) < n
      · have hl2 : ¬ (k : Int) < 7 := fun h => hlt (hn2 hl1 h)
        clear hn2
        go_wp2
        go_ret
        obtain rfl : k = (sz n).toNat := by omega
        exact ⟨_, rfl, hown, hb⟩
      · clear hn2
        go_wp2
        go_ret
        obtain rfl : k = (sz n).toNat := by omega
        exact ⟨_, rfl, hown, hb⟩

set_option maxHeartbeats 1000000 in
theorem rin_any (a n x : Int) (w : World) (h1 : 0 ≤ a) (h2 : a ≤ 255) (h3 : 0 ≤ x) (h4 : x ≤ 255) :
    Calls Try.prog 17 #[.int .u8 a, .int .i64 n, .int .u8 x] w fun e w' => e = .returned (.bool (decide (wy a x < sz n))) ∧ Below w.heap.size w w' := by
  have hs := sz_bd n
  have hy := wy_bd a x
  have hw : Hid (wy a x = (x - a) % 8) := rfl
  go_enter Try.func17, Try.ntmps17
  go_wp2_with (go_at_call 13; refine (rwindow_any _ _ _ (by omega) (by omega)).mono ?_; rintro e w1 ⟨v, rfl, hown, hb⟩)
  obtain ⟨ad, c, rfl, hh⟩ := ownsRow_holds (win_length _ _) hown
  clear hown
  go_wp2
  go_loop [8] (fun i => ∃ k : Nat, (k : Int) ≤ sz n ∧ (k : Int) ≤ wy a x ∧ i = .int .i64 k) (fun i => (sz n - intOf i).toNat)
  case atStart => exact ⟨0, by omega, by omega, rfl⟩
  case round =>
    obtain ⟨k, hk, hkw, rfl⟩ := hrel
    by_cases hlt : (k : Int) < sz n
    · obtain ⟨g, og, rfl, _, hg⟩ := hh (by omega)
      have hc := hg k (by omega)
      rw [win_get _ _ _ (by omega)] at hc
      by_cases heq : (k : Int) = wy a x
      · have ht : ((a + k) % 8 == x % 8) = true := by rw [beq_iff_eq]; have := hw.out; omega
        have hd : decide (wy a x < sz n) = true := by rw [decide_eq_true_eq]; omega
        have heq' := hide heq
        clear heq hh hg
        go_wp2
        go_ret
        exact ⟨rfl, hb⟩
      · have ht : ((a + k) % 8 == x % 8) = false := by rw [beq_eq_false_iff_ne]; have := hw.out; omega
        clear hh hg
        go_wp2
        go_round
        case rel => exact ⟨k + 1, by omega, by omega, by go_num⟩
        case measure => simp [intOf]; omega
    · have hd : decide (wy a x < sz n) = false := by rw [decide_eq_false_iff_not]; omega
      clear hh
      go_wp2
      go_ret
      exact ⟨rfl, hb⟩

end Go.Proofs.Ytclijglnbolhbaa
