/- The walk of chapter 13's law SeqWindow: it answers true. -/
import Derived.Test.YtclijglnbolhbaaSeqLaws
namespace Go.Proofs.Ytclijglnbolhbaa
open Go.RowKit
set_option linter.unusedVariables false
set_option linter.unusedSimpArgs false

theorem ownsRow_head {w : World} {B n c : Nat} {a : Option Addr} {xs : List Value} {e : TypeId} (h : w.ownsRow B e 1 (.slice a n c) n xs) (hn : 0 < n) :
    ∃ g, a = some ⟨g, 0, none⟩ ∧ B ≤ g := by
  rcases h.2 with ⟨h1, h2⟩ | ⟨g, cap, cur, h1, hb, _⟩
  · omega
  · simp only [Value.slice.injEq] at h1
    exact ⟨g, h1.1, hb⟩

set_option maxHeartbeats 2000000 in
theorem seqWindow_any (a n x : Int) (w : World) (h1 : 0 ≤ a) (h2 : a ≤ 255) (h3 : -9223372036854775808 ≤ n) (h4 : n ≤ 9223372036854775807) (h5 : 0 ≤ x) (h6 : x ≤ 255) :
    Calls Try.prog 4 #[.int .u8 a, .int .i64 n, .int .u8 x] w fun e w' => e = .returned (.bool true) ∧ Below w.heap.size w w' := by
  obtain ⟨K, hK, hK7⟩ : ∃ K : Nat, (sz n).toNat = K ∧ K ≤ 7 := ⟨_, rfl, by have := sz_bd n; omega⟩
  have HK := hide hK
  go_enter Try.func4, Try.ntmps4
  clear hK
  go_wp2_with fail
  refine (rwindow_any _ _ _ (by omega) (by omega)).mono ?_
  rintro e w1 ⟨v, rfl, hown, hb⟩
  rw [HK.out] at hown
  obtain ⟨ad, c, rfl, hh⟩ := ownsRow_holds (win_length _ _) hown
  clear hown
  go_wp2
  go_loopw [8] (fun t wr => ∃ k : Nat, k ≤ 2 ∧ t = .int .i64 k ∧ Holds8 wr ad K (win a K) ∧ Below w.heap.size w wr) (fun t _ => 2 - (intOf t).toNat)
  case atStart => exact ⟨0, by omega, rfl, hh, hb⟩
  case round =>
    obtain ⟨k, hk, rfl, hh, hb⟩ := hrel
    obtain ⟨wo, rfl⟩ : ∃ wo : World, wo = wr := ⟨_, rfl⟩
    by_cases hlt : k < 2
    · go_wp2_with fail
      refine (window_any _ _ _ (by omega) (by omega)).mono ?_
      rintro e w2 ⟨v, rfl, hown, hb2⟩
      rw [HK.out] at hown
      obtain ⟨al, cl, rfl, hhl⟩ := ownsRow_holds (win_length _ _) hown
      go_wp2_with fail
      refine (same_any _ _ K _ _ (win a K) _ (by omega) hhl (hh.below hb2)).mono ?_
      rintro e w3 ⟨rfl, m, rfl⟩
      go_wp2
      go_loopw [10] (fun i ww => ∃ (j : Nat) (xs : List Value), j ≤ K ∧ i = .int .i64 j ∧ ww.ownsRow wo.heap.size 5 1 (.slice al K cl) K xs ∧ Below wo.heap.size wo ww) (fun i _ => K - (intOf i).toNat)
      case atStart => exact ⟨0, _, by omega, rfl, hown, below_drewN hb2 _⟩
      case round =>
        obtain ⟨j, xs, hj, rfl, ho, hb3⟩ := hrel
        by_cases hjl : j < K
        · obtain ⟨g, rfl, hg⟩ := ownsRow_head ho (by omega)
          have hx : ∃ u, xs[j]? = some u := by
            have := ho.1
            exact ⟨xs[j]'(by omega), by simp⟩
          obtain ⟨u, hu⟩ := hx
          have hcell := ho.cellAt j (by omega)
          rw [hu] at hcell
          have hfr := ho.frozenAt j
          have hst := (ho.stored j (.int .u8 9)).1
          have hb4 : Below wo.heap.size wo (wr.setCell ⟨g, j, none⟩ (.int .u8 9)) := hb3.setCell (p := ⟨g, j, none⟩) hg _
          clear hu ho hb3
          go_wp2
          go_roundw
          case rel => exact ⟨j + 1, _, by omega, by go_num, hst, hb4⟩
          case measure => simp [intOf]; omega
        · go_wp2
          go_roundw
          case rel => exact ⟨k + 1, by omega, by go_num, hh.below hb3, below_step hb (Nat.le_refl _) hb3⟩
          case measure => simp [intOf]; omega
    · have hd : (wy a x < sz n) = (wy a x < sz n) := rfl
      clear hd
      go_wp2_with (first | (go_at_call 16; refine (in_any _ _ _ _ (by omega) (by omega) (by omega) (by omega)).mono ?_; rintro e w' ⟨rfl, rfl⟩) | (go_at_call 17; refine (rin_any _ _ _ _ (by omega) (by omega) (by omega) (by omega)).mono ?_; rintro e w2 ⟨rfl, hb2⟩) | (go_at_call 12; refine (works_any _).mono ?_; rintro e w3 ⟨rfl, hb3⟩))
      go_ret
      exact ⟨rfl, below_step (below_step hb (Nat.le_refl _) hb2) (Nat.le_refl _) hb3⟩

end Go.Proofs.Ytclijglnbolhbaa
