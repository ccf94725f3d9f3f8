/- The walks of field.Get and of its reference; and of the tests May, Carries. -/
import Derived.Test.YtnnimkailajgaaaDoorFieldWalks
namespace Go.Proofs.YtnnimkailajgaaaDoor
open Go.RowKit
set_option linter.unusedVariables false
set_option linter.unusedSimpArgs false

theorem results_tmp5 {fn : Func} {t u v x y : Tmp} (h : fn.results = #[.tmp t, .tmp u, .tmp v, .tmp x, .tmp y]) (tmps : Array Value) (P : Program) (w : World) :
    (results fn tmps).run P w = .ok (.tuple #[tmps.getD t undef, tmps.getD u undef, tmps.getD v undef, tmps.getD x undef, tmps.getD y undef]) w := by simp [results, h]
/-- What Get tells. -/
def getR (c : Nat) : Ending := .returned (.tuple #[.int .u8 (gk c : Nat), .bool (gp c), .int .u8 (gs c : Nat), .int .u8 (gr c : Nat), .int .i64 (ge c : Nat)])

/-- The last of the table's places, from 'a' on, that holds v; 0: none. -/
def scanTo (v a : Nat) : Nat → Nat
  | 0 => 0
  | i + 1 => if v = octT.getD (a + i) 0 then a + i else scanTo v a i
theorem scan_le (v a : Nat) : ∀ i, scanTo v a i ≤ a + i
  | 0 => Nat.zero_le _
  | i + 1 => by unfold scanTo; have := scan_le v a i; split <;> omega
theorem scan_a : ∀ c, c < 256 → c % 4 = 1 → scanTo (c % 16) 8 3 = gk c := by decide +kernel
theorem scan_b : ∀ c, c < 256 → c % 4 = 3 → scanTo (c - 16 * (c / 16 % 2)) 1 6 = gk c := by decide +kernel
theorem kind_a : ∀ c, c < 256 → c % 4 = 1 → gk c ≠ 0 → gs c = 0 ∧ gr c = c / 32 := by decide +kernel
theorem kind_b : ∀ c, c < 256 → c % 4 = 3 → gk c ≠ 0 → gs c = 0 ∧ gr c = 0 := by decide +kernel
theorem kind_i : ∀ c, c < 256 → c % 2 = 0 → gk c = 7 ∧ gs c = c / 2 % 8 ∧ gr c = c / 32 := by decide +kernel
theorem masks : ∀ c : Nat, c < 256 → bits .and .u8 (c : Int) 3 = ((c % 4 : Nat) : Int) ∧ bits .and .u8 (c : Int) 15 = ((c % 16 : Nat) : Int) ∧ (bits .and .u8 (c : Int) 16 != 0) = decide (c / 16 % 2 = 1) ∧ bits .andNot .u8 (c : Int) 16 = ((c - 16 * (c / 16 % 2) : Nat) : Int) := by decide +kernel
theorem getR_none {c : Nat} (h : gk c = 0) : getR c = .returned (.tuple #[.int .u8 0, .bool false, .int .u8 0, .int .u8 0, .int .i64 30]) := by
  simp [getR, gp, gs, gr, ge, h]
theorem getR_some {c s r : Nat} {p : Bool} (hK : gk c ≠ 0) (hs : gs c = s) (hr : gr c = r) (hp : decide (c / 16 % 2 = 1) = p) : getR c = .returned (.tuple #[.int .u8 (gk c : Nat), .bool p, .int .u8 (s : Nat), .int .u8 (r : Nat), .int .i64 0]) := by
  subst hs hr hp
  simp [getR, gp, ge, hK]

set_option maxHeartbeats 1000000 in
theorem fget_any (c : Nat) (w : World) (hh : Octs w) (h1 : c ≤ 255) :
    Calls Tryd.prog 42 #[.int .u8 (c : Int)] w fun e w' => e = getR c ∧ w = w' := by
  obtain ⟨A3, A15, A16, N16⟩ := masks c (by omega)
  obtain ⟨pf, hpf⟩ : ∃ pf : Bool, decide (c / 16 % 2 = 1) = pf := ⟨_, rfl⟩
  rw [hpf] at A16
  by_cases e2 : c % 2 = 0
  · obtain ⟨k1, k2, k3⟩ := kind_i c (by omega) e2
    rw [getR_some (by omega) k2 k3 hpf, k1]
    have b3 : bits .and .u8 (c : Int) 3 = 0 ∨ bits .and .u8 (c : Int) 3 = 2 := by omega
    clear A3 A15 N16 k1 k2 k3 hpf e2
    rcases b3 with A3 | A3
    all_goals (
      go_enter Tryd.func42, Tryd.ntmps42
      go_wp2
      go_loop [2, 8] (fun K j => ∃ i : Nat, i ≤ 3 ∧ j = .int .u8 ((8 + i : Nat) : Int) ∧ K = .int .u8 7) (fun _ j => 11 - (intOf j).toNat)
      case atStart => exact ⟨0, by omega, rfl, rfl⟩
      case round =>
        obtain ⟨i, hi, rfl, rfl⟩ := hrel
        by_cases hlt : i < 3
        · go_wp2
          go_round
          case rel => exact ⟨i + 1, by omega, by go_num, rfl⟩
          case measure => simp [intOf]; omega
        · go_wp2
          refine bodyPost_ret (results_tmp5 rfl _ _ _) rfl ?_
          exact ⟨rfl, rfl⟩)
  · by_cases e4 : c % 4 = 1
    · have s1 := scan_a c (by omega) e4
      have s2 := kind_a c (by omega) e4
      rw [e4] at A3
      have hm : c % 16 ≤ 255 := by omega
      generalize c % 16 = m at A15 s1 hm
      have HS := hide (And.intro s1 (And.intro s2 hpf))
      clear s1 s2 hpf e4 e2 N16
      go_enter Tryd.func42, Tryd.ntmps42
      go_wp2
      go_loop [2, 8] (fun K j => ∃ i : Nat, i ≤ 3 ∧ j = .int .u8 ((8 + i : Nat) : Int) ∧ K = .int .u8 (scanTo m 8 i : Nat)) (fun _ j => 11 - (intOf j).toNat)
      case atStart => exact ⟨0, by omega, rfl, rfl⟩
      case round =>
        obtain ⟨i, hi, rfl, rfl⟩ := hrel
        by_cases hlt : i < 3
        · have hc := hh (8 + i) (by omega)
          have hz := octT_lt (8 + i)
          by_cases hv : m = octT.getD (8 + i) 0
          · have hn : scanTo m 8 (i + 1) = 8 + i := by unfold scanTo; rw [if_pos hv]
            have HN := hide hn
            have hvb : ((m : Int) == ((octT.getD (8 + i) 0 : Nat) : Int)) = true := by rw [beq_iff_eq]; omega
            clear hv hn
            generalize octT.getD (8 + i) 0 = z at hc hz hvb
            go_wp2
            go_round
            case rel => exact ⟨i + 1, by omega, by go_num, by rw [HN.out]⟩
            case measure => simp [intOf]; omega
          · have hn : scanTo m 8 (i + 1) = scanTo m 8 i := by rw [scanTo, if_neg hv]
            have HN := hide hn
            have hvb : ((m : Int) == ((octT.getD (8 + i) 0 : Nat) : Int)) = false := by rw [beq_eq_false_iff_ne]; omega
            clear hv hn
            generalize octT.getD (8 + i) 0 = z at hc hz hvb
            go_wp2
            go_round
            case rel => exact ⟨i + 1, by omega, by go_num, by rw [HN.out]⟩
            case measure => simp [intOf]; omega
        · obtain rfl : i = 3 := by omega
          have hle := scan_le m 8 3
          obtain ⟨K, hK⟩ : ∃ K, scanTo m 8 3 = K := ⟨_, rfl⟩
          have HK := hide hK
          rw [hK] at hle ⊢
          by_cases h0 : K = 0
          · subst h0
            clear hK
            go_wp2
            refine bodyPost_ret (results_tmp5 rfl _ _ _) rfl ?_
            exact ⟨(getR_none (HS.out.1.symm.trans HK.out)).symm, rfl⟩
          · clear hK
            go_wp2
            refine bodyPost_ret (results_tmp5 rfl _ _ _) rfl ?_
            refine ⟨?_, rfl⟩
            have hg : gk c = K := HS.out.1.symm.trans HK.out
            obtain ⟨q1, q2⟩ := HS.out.2.1 (by omega)
            rw [getR_some (by omega) q1 q2 HS.out.2.2, hg]; rfl
    · have e3 : c % 4 = 3 := by omega
      have s1 := scan_b c (by omega) e3
      have s2 := kind_b c (by omega) e3
      rw [e3] at A3
      have hm : c - 16 * (c / 16 % 2) ≤ 255 := by omega
      generalize c - 16 * (c / 16 % 2) = m at N16 s1 hm
      have HS := hide (And.intro s1 (And.intro s2 hpf))
      clear s1 s2 hpf e4 e3 e2 A15
      go_enter Tryd.func42, Tryd.ntmps42
      go_wp2
      go_loop [2, 9] (fun K j => ∃ i : Nat, i ≤ 6 ∧ j = .int .u8 ((1 + i : Nat) : Int) ∧ K = .int .u8 (scanTo m 1 i : Nat)) (fun _ j => 7 - (intOf j).toNat)
      case atStart => exact ⟨0, by omega, rfl, rfl⟩
      case round =>
        obtain ⟨i, hi, rfl, rfl⟩ := hrel
        by_cases hlt : i < 6
        · have hc := hh (1 + i) (by omega)
          have hz := octT_lt (1 + i)
          by_cases hv : m = octT.getD (1 + i) 0
          · have hn : scanTo m 1 (i + 1) = 1 + i := by unfold scanTo; rw [if_pos hv]
            have HN := hide hn
            have hvb : ((m : Int) == ((octT.getD (1 + i) 0 : Nat) : Int)) = true := by rw [beq_iff_eq]; omega
            clear hv hn
            generalize octT.getD (1 + i) 0 = z at hc hz hvb
            go_wp2
            go_round
            case rel => exact ⟨i + 1, by omega, by go_num, by rw [HN.out]⟩
            case measure => simp [intOf]; omega
          · have hn : scanTo m 1 (i + 1) = scanTo m 1 i := by rw [scanTo, if_neg hv]
            have HN := hide hn
            have hvb : ((m : Int) == ((octT.getD (1 + i) 0 : Nat) : Int)) = false := by rw [beq_eq_false_iff_ne]; omega
            clear hv hn
            generalize octT.getD (1 + i) 0 = z at hc hz hvb
            go_wp2
            go_round
            case rel => exact ⟨i + 1, by omega, by go_num, by rw [HN.out]⟩
            case measure => simp [intOf]; omega
        · obtain rfl : i = 6 := by omega
          have hle := scan_le m 1 6
          obtain ⟨K, hK⟩ : ∃ K, scanTo m 1 6 = K := ⟨_, rfl⟩
          have HK := hide hK
          rw [hK] at hle ⊢
          by_cases h0 : K = 0
          · subst h0
            clear hK
            go_wp2
            refine bodyPost_ret (results_tmp5 rfl _ _ _) rfl ?_
            exact ⟨(getR_none (HS.out.1.symm.trans HK.out)).symm, rfl⟩
          · clear hK
            go_wp2
            refine bodyPost_ret (results_tmp5 rfl _ _ _) rfl ?_
            refine ⟨?_, rfl⟩
            have hg : gk c = K := HS.out.1.symm.trans HK.out
            obtain ⟨q1, q2⟩ := HS.out.2.1 (by omega)
            rw [getR_some (by omega) q1 q2 HS.out.2.2, hg]; rfl

end Go.Proofs.YtnnimkailajgaaaDoor
