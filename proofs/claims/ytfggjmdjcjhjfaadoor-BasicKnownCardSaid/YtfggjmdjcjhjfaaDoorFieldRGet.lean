/- The walk of the reference's Get, which looks at all frames. -/
import Derived.Test.YtfggjmdjcjhjfaaDoorFieldGet
namespace Go.Proofs.YtfggjmdjcjhjfaaDoor
open Go.RowKit
set_option linter.unusedVariables false
set_option linter.unusedSimpArgs false

theorem getR_is {k s r c : Nat} {p : Bool} (h : putOk k s r = true) (hc : putN k p s r = c) : getR c = .returned (.tuple #[.int .u8 (k : Nat), .bool p, .int .u8 (s : Nat), .int .u8 (r : Nat), .int .i64 0]) := by
  subst hc
  obtain ⟨e1, e2, e3, e4⟩ := get_put p h
  have h1 := (putOk_parts h).1
  unfold getR
  rw [e1, e2, e3, e4]
  have : ge (putN k p s r) = 0 := by unfold ge; rw [e1, if_neg (by omega)]
  rw [this]; rfl
def hit (c k n : Nat) : Prop := putOk k (n / 2 % 8) (n / 16) = true ∧ putN k ((n : Int) % 2 == 1) (n / 2 % 8) (n / 16) = c
def noneTo (c k n : Nat) : Prop := ∀ k' n', 1 ≤ k' → n' < 128 → (k' < k ∨ k' = k ∧ n' < n) → ¬ hit c k' n'
theorem noneTo_start (c : Nat) : noneTo c 1 0 := fun k' n' h1 h2 h3 => by omega
theorem noneTo_step {c k n : Nat} (h : noneTo c k n) (hn : ¬ hit c k n) : noneTo c k (n + 1) := fun k' n' h1 h2 h3 => by
  by_cases he : k' = k ∧ n' = n
  · rw [he.1, he.2]; exact hn
  · exact h k' n' h1 h2 (by omega)
theorem noneTo_next {c k : Nat} (h : noneTo c k 128) : noneTo c (k + 1) 0 := fun k' n' h1 h2 h3 => h k' n' h1 h2 (by omega)
theorem noneTo_end {c : Nat} (hc : c ≤ 255) (h : noneTo c 11 0) : gk c = 0 := by
  by_cases h0 : gk c = 0
  · exact h0
  · exfalso
    obtain ⟨e1, e2⟩ := put_of_get hc h0
    have hs := gs_le c
    have hr := gr_le c hc
    obtain ⟨k1, k2, _⟩ := putOk_parts e1
    generalize gp c = p at e2
    have hk : ∀ n, n < 128 → n / 2 % 8 = gs c → n / 16 = gr c → ((n : Int) % 2 == 1) = p → False := fun n hn q1 q2 q3 =>
      h (gk c) n k1 hn (Or.inl (by omega)) (by unfold hit; rw [q1, q2, q3]; exact ⟨e1, e2⟩)
    cases p
    · exact hk (2 * gs c + 16 * gr c) (by omega) (by omega) (by omega) (by rw [beq_eq_false_iff_ne]; omega)
    · exact hk (1 + 2 * gs c + 16 * gr c) (by omega) (by omega) (by omega) (by rw [beq_iff_eq]; omega)

theorem rput_at (k n : Nat) (w : World) (h1 : k ≤ 255) (h2 : n < 128) :
    Calls Tryd.prog 35 #[.int .u8 (k : Int), .bool ((n : Int) % 2 == 1), .int .u8 ((n : Int) / 2 % 8), .int .u8 ((n : Int) / 16)] w fun e w' => e = putR k ((n : Int) % 2 == 1) (n / 2 % 8) (n / 16) ∧ w = w' :=
  rput_any k ((n : Int) % 2 == 1) (n / 2 % 8) (n / 16) w h1 (by omega) (by omega)

set_option maxHeartbeats 4000000 in
set_option maxRecDepth 100000 in
theorem rget_any (c : Nat) (w : World) (h1 : c ≤ 255) :
    Calls Tryd.prog 32 #[.int .u8 (c : Int)] w fun e w' => e = getR c ∧ w = w' := by
  go_enter Tryd.func32, Tryd.ntmps32
  go_wp2
  go_loop [7] (fun kv => ∃ k : Nat, 1 ≤ k ∧ k ≤ 11 ∧ kv = .int .u8 (k : Int) ∧ noneTo c k 0) (fun kv => 11 - (intOf kv).toNat)
  case atStart => exact ⟨1, by omega, by omega, rfl, noneTo_start c⟩
  case round =>
    obtain ⟨k, hk1, hk2, rfl, hnone⟩ := hrel
    by_cases hlt : k < 11
    · have da : decide ((k : Int) ≤ 10) = true := by simp; omega
      go_wp2
      go_loop [8] (fun nv => ∃ n : Nat, n ≤ 128 ∧ nv = .int .u8 (n : Int) ∧ noneTo c k n) (fun nv => 128 - (intOf nv).toNat)
      case atStart => exact ⟨0, by omega, rfl, hnone⟩
      case round =>
        clear hnone
        obtain ⟨n, hn, rfl, hnone⟩ := hrel
        by_cases hnt : n < 128
        · by_cases hok : putOk k (n / 2 % 8) (n / 16) = true
          · by_cases hc : putN k ((n : Int) % 2 == 1) (n / 2 % 8) (n / 16) = c
            · have HC := hide (And.intro hok hc)
              have hput := hide (rput_at k n · (by omega) hnt)
              go_wp2_with fail
              refine (hput.out _).mono ?_
              rw [putR_ok _ HC.out.1, HC.out.2]
              clear hok hc
              rintro e w' ⟨rfl, rfl⟩
              go_wp2
              refine bodyPost_ret (results_tmp5 rfl _ _ _) rfl ?_
              refine ⟨?_, rfl⟩
              rw [getR_is HC.out.1 HC.out.2]; rfl
            · have HC := hide (show ¬ hit c k n from fun h => hc h.2)
              have hput := hide (rput_at k n · (by omega) hnt)
              have HK := hide hok
              have hlp := putN_lt ((n : Int) % 2 == 1) hok
              obtain ⟨y, hy⟩ : ∃ y, putN k ((n : Int) % 2 == 1) (n / 2 % 8) (n / 16) = y := ⟨_, rfl⟩
              rw [hy] at hlp hc
              have hb : ((y : Int) == (c : Int)) = false := by rw [beq_eq_false_iff_ne]; omega
              have HY := hide hy
              clear hok hc hy
              go_wp2_with fail
              refine (hput.out _).mono ?_
              rw [putR_ok _ HK.out, HY.out]
              rintro e w' ⟨rfl, rfl⟩
              go_wp2
              go_round
              case rel => exact ⟨n + 1, by omega, by go_num, noneTo_step hnone HC.out⟩
              case measure => simp [intOf]; omega
          · have HC := hide (show ¬ hit c k n from fun h => hok h.1)
            have hput := hide (rput_at k n · (by omega) hnt)
            have HK := hide hok
            clear hok
            go_wp2_with fail
            refine (hput.out _).mono ?_
            rw [putR_bad _ (fun h => HK.out (decide_eq_true h))]
            rintro e w' ⟨rfl, rfl⟩
            go_wp2
            go_round
            case rel => exact ⟨n + 1, by omega, by go_num, noneTo_step hnone HC.out⟩
            case measure => simp [intOf]; omega
        · obtain rfl : n = 128 := by omega
          go_wp2
          go_round
          case rel => exact ⟨k + 1, by omega, by omega, by go_num, noneTo_next hnone⟩
          case measure => simp [intOf]; omega
    · obtain rfl : k = 11 := by omega
      have HK := hide (noneTo_end h1 hnone)
      go_wp2
      refine bodyPost_ret (results_tmp5 rfl _ _ _) rfl ?_
      exact ⟨(getR_none HK.out).symm, rfl⟩

end Go.Proofs.YtfggjmdjcjhjfaaDoor
