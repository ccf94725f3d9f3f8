/- The walks of chapter 01's laws FcsStep, FcsSums, FcsMends, FcsGood: each answers true. -/
import Derived.Test.YtphmikaeenkdoaaDoorFcsLaw
namespace Go.Proofs.YtphmikaeenkdoaaDoor
open Go.RowKit
set_option linter.unusedVariables false
set_option linter.unusedSimpArgs false

set_option maxHeartbeats 1000000 in
theorem fcsStep_any (a b : Int) (w : World) (hh : Half w) (h1 : 0 ≤ a) (h2 : a ≤ 255) (h3 : 0 ≤ b) (h4 : b ≤ 255) :
    Calls Tryd.prog 3 #[.int .u8 a, .int .u8 b] w fun e w' => e = .returned (.bool true) ∧ Below w.heap.size w w' := by
  go_enter Tryd.func3, Tryd.ntmps3
  go_wp2_with (first | (go_at_call 10; refine (fstep_any _ _ _ hh (by omega) (by omega) (by omega) (by omega)).mono ?_; rintro e w' ⟨rfl, rfl⟩) | (go_at_call 11; refine (rfstep_any _ _ _ (by omega) (by omega) (by omega) (by omega)).mono ?_; rintro e w' ⟨rfl, rfl⟩) | (go_at_call 12; refine (works_any _ hh).mono ?_; rintro e w' ⟨rfl, hb⟩))
  go_ret
  exact ⟨rfl, hb⟩

set_option maxHeartbeats 1000000 in
theorem fcsSums_any (s : ByteArray) (w : World) (hh : Half w) (hs : s.size ≤ maxLen) :
    Calls Tryd.prog 4 #[.string s] w fun e w' => e = .returned (.bool true) ∧ Below w.heap.size w w' := by
  have hs' : s.size ≤ 9223372036854775807 := by unfold maxLen at hs; exact hs
  have HS := hide hs
  have e1 : ((reg 255 (bl s) == 207) == ((reg 255 (bl s) : Int) == 207)) = true := by
    rw [beq_iff_eq, Bool.eq_iff_iff]; simp; omega
  by_cases hn : 3000 < s.size
  · go_enter Tryd.func4, Tryd.ntmps4
    go_wp2_with (go_at_call 12; refine (works_any _ hh).mono ?_; rintro e w' ⟨rfl, hb⟩)
    go_ret
    exact ⟨rfl, hb⟩
  · clear hs
    go_enter Tryd.func4, Tryd.ntmps4
    go_wp2_with (first | (go_at_call 13; refine (fsum_any _ _ hh HS.out).mono ?_; rintro e w' ⟨rfl, rfl⟩) | (go_at_call 14; refine (rfsum_any _ _ HS.out).mono ?_; rintro e w' ⟨rfl, rfl⟩) | (go_at_call 15; refine (fgood_any _ _ hh HS.out).mono ?_; rintro e w' ⟨rfl, rfl⟩) | (go_at_call 16; refine (rregister_any _ _ HS.out).mono ?_; rintro e w' ⟨rfl, rfl⟩) | (go_at_call 12; refine (works_any _ hh).mono ?_; rintro e w' ⟨rfl, hb⟩))
    go_ret
    exact ⟨rfl, hb⟩

set_option maxHeartbeats 1000000 in
theorem fcsMends_any (s : ByteArray) (bit : Int) (w : World) (hh : Half w) (hs : s.size ≤ maxLen) (h1 : -9223372036854775808 ≤ bit) (h2 : bit ≤ 9223372036854775807) :
    Calls Tryd.prog 5 #[.string s, .int .i64 bit] w fun e w' => e = .returned (.bool true) ∧ Below w.heap.size w w' := by
  have hs' : s.size ≤ 9223372036854775807 := by unfold maxLen at hs; exact hs
  have HS := hide hs
  by_cases hn : 1000 < s.size
  · go_enter Tryd.func5, Tryd.ntmps5
    go_wp2_with (go_at_call 12; refine (works_any _ hh).mono ?_; rintro e w' ⟨rfl, hb⟩)
    go_ret
    exact ⟨rfl, hb⟩
  · clear hs
    go_enter Tryd.func5, Tryd.ntmps5
    go_wp2_with fail
    refine (mend_any _ _ _ hh HS.out h1 h2).mono ?_
    rintro e w' ⟨rfl, rfl⟩
    go_wp2_with fail
    refine (rmend_any _ _ _ HS.out h1 h2).mono ?_
    rintro e w1 ⟨rfl, hb⟩
    go_wp2_with fail
    refine (works_any _ (hh.below hb)).mono ?_
    rintro e w2 ⟨rfl, hb2⟩
    go_wp2
    go_ret
    exact ⟨rfl, below_step hb (Nat.le_refl _) hb2⟩

theorem bl_extract (s : ByteArray) (k : Nat) (hk : k ≤ s.size) : bl (s.extract 0 k) = (bl s).take k := by
  unfold bl
  rw [ByteArray.data_extract, Array.toList_extract]
  simp
theorem bl_one (s : ByteArray) (b : Int) (h1 : 0 ≤ b) (h2 : b ≤ 255) : bl (s ++ ⟨#[UInt8.ofNat b.toNat]⟩) = bl s ++ [b.toNat] := by
  unfold bl
  rw [ByteArray.data_append]
  simp
  omega
/-- Bytes with a byte behind are good just if that is their check. -/
theorem good_iff {l : List Nat} (hl : Bytes l) {b : Nat} (hb : b < 256) : (reg 255 (l ++ [b]) == 207) = (b == fsum l) := by
  have hr := reg_lt 255 l (by omega) hl
  rw [reg_snoc, fsum_xor hl, Bool.eq_iff_iff, beq_iff_eq, beq_iff_eq]
  constructor
  · intro h
    have h1 : fS (reg 255 l ^^^ b) = fS 255 := by rw [h]; decide
    have h2 := fS_inj (xor_lt hr hb) (by omega) h1
    have h3 := xor_self_cancel (reg 255 l) b
    rw [h2, Nat.xor_comm] at h3
    exact h3.symm
  · rintro rfl
    rw [Nat.xor_comm 255, ← Nat.xor_assoc, Nat.xor_self, Nat.zero_xor]; decide

set_option maxHeartbeats 2000000 in
theorem fcsGood_any (s : ByteArray) (b at_ : Int) (w : World) (hh : Half w) (hs : s.size ≤ maxLen) (h1 : 0 ≤ b) (h2 : b ≤ 255) (h3 : -9223372036854775808 ≤ at_) (h4 : at_ ≤ 9223372036854775807) :
    Calls Tryd.prog 6 #[.string s, .int .u8 b, .int .i64 at_] w fun e w' => e = .returned (.bool true) ∧ Below w.heap.size w w' := by
  have hs' : s.size ≤ 9223372036854775807 := by unfold maxLen at hs; exact hs
  have HS := hide hs
  by_cases hn : 2000 < s.size
  · go_enter Tryd.func6, Tryd.ntmps6
    go_wp2_with (go_at_call 12; refine (works_any _ hh).mono ?_; rintro e w' ⟨rfl, hb⟩)
    go_ret
    exact ⟨rfl, hb⟩
  · clear hs hs'
    have hr : ∀ k, reg 255 ((bl s).take k) < 256 := fun k => reg_lt _ _ (by omega) (fun b hb => bl_bytes s b (List.mem_of_mem_take hb))
    have HR := hide hr
    clear hr
    obtain ⟨n, hnn, hn2⟩ : ∃ n : Nat, at_ % ((s.size : Int) + 1) = (n : Int) ∧ n ≤ s.size := by
      have e2 := Int.emod_nonneg at_ (b := (s.size : Int) + 1) (by omega)
      have e3 := Int.emod_lt_of_pos at_ (show 0 < (s.size : Int) + 1 by omega)
      exact ⟨(at_ % ((s.size : Int) + 1)).toNat, by omega, by omega⟩
    have HN := hide hnn
    clear hnn
    have hext : (s.extract 0 n).size ≤ maxLen := by
      rw [← bl_length, bl_extract s n hn2, List.length_take]; unfold maxLen; omega
    have hE := hide (bl_extract s n hn2)
    have hone := hide (bl_one s b h1 h2)
    have hall : (bl s).take s.size = bl s := List.take_of_length_le (by rw [bl_length]; omega)
    have HA := hide hall
    clear hall
    go_enter Tryd.func6, Tryd.ntmps6
    go_wp2_with fail
    refine (pick_any _ _ _ (by omega) (by omega) h3 h4).mono ?_
    rw [HN.out]
    rintro e w' ⟨rfl, rfl⟩
    go_wp2
    go_loop [7, 9] (fun r i => ∃ k : Nat, k ≤ n ∧ i = .int .i64 k ∧ r = .int .u8 (reg 255 ((bl s).take k) : Nat)) (fun _ i => n - (intOf i).toNat)
    case atStart => exact ⟨0, by omega, rfl, rfl⟩
    case round =>
      obtain ⟨k, hk, rfl, rfl⟩ := hrel
      by_cases hlt : k < n
      · have hb := bl_take s k (by omega)
        have hs1 := reg_snoc 255 ((bl s).take k) s[k].toNat
        rw [← hb] at hs1
        have hy2 := HR.out k
        obtain ⟨y, hy⟩ : ∃ y, reg 255 ((bl s).take k) = y := ⟨_, rfl⟩
        rw [hy] at hs1 hy2 ⊢
        have H1 := hide hs1
        have hu := s[k].toNat_lt
        clear hs1 hy hb
        go_wp2_with (go_at_call 10; refine (fstep_any _ _ _ hh (by omega) (by omega) (by omega) (by omega)).mono ?_; rintro e w' ⟨rfl, rfl⟩)
        go_round
        case rel => exact ⟨k + 1, by omega, by go_num, by rw [H1.out]⟩
        case measure => simp [intOf]; omega
      · obtain rfl : k = n := by omega
        have hy2 := HR.out k
        go_wp2_with fail
        refine (fsum_any _ _ hh hext).mono ?_
        rw [hE.out]
        rintro e w' ⟨rfl, rfl⟩
        have ht : (((fsum ((bl s).take k) : Nat) : Int) != 255 - ((reg 255 ((bl s).take k) : Nat) : Int)) = false := by
          rw [bne_eq_false_iff_eq]; unfold fsum; omega
        go_wp2
        go_loop [7, 10] (fun r i => ∃ j : Nat, j ≤ s.size ∧ i = .int .i64 j ∧ r = .int .u8 (reg 255 ((bl s).take j) : Nat)) (fun _ i => s.size - (intOf i).toNat)
        case atStart => exact ⟨k, by omega, rfl, rfl⟩
        case round =>
          clear ht hy2
          obtain ⟨j, hj, rfl, rfl⟩ := hrel
          by_cases hjl : j < s.size
          · have hb := bl_take s j (by omega)
            have hs1 := reg_snoc 255 ((bl s).take j) s[j].toNat
            rw [← hb] at hs1
            have hy2 := HR.out j
            obtain ⟨y, hy⟩ : ∃ y, reg 255 ((bl s).take j) = y := ⟨_, rfl⟩
            rw [hy] at hs1 hy2 ⊢
            have H1 := hide hs1
            have hu := s[j].toNat_lt
            clear hs1 hy hb
            go_wp2_with (go_at_call 10; refine (fstep_any _ _ _ hh (by omega) (by omega) (by omega) (by omega)).mono ?_; rintro e w' ⟨rfl, rfl⟩)
            go_round
            case rel => exact ⟨j + 1, by omega, by go_num, by rw [H1.out]⟩
            case measure => simp [intOf]; omega
          · obtain rfl : j = s.size := by omega
            rw [HA.out]
            have hy2 := reg_bl_lt s
            have ht : (((fsum (bl s) : Nat) : Int) == 255 - ((reg 255 (bl s) : Nat) : Int)) = true := by
              rw [beq_iff_eq]; unfold fsum; omega
            have hg := good_iff (bl_bytes s) (b := b.toNat) (by omega)
            have hg2 : ((b.toNat == fsum (bl s)) == (b == ((fsum (bl s) : Nat) : Int))) = true := by
              rw [beq_iff_eq, Bool.eq_iff_iff]; simp; omega
            have HG := hide hg
            clear hg
            go_wp2_with fail
            refine (fsum_any _ _ hh HS.out).mono ?_
            rintro e w' ⟨rfl, rfl⟩
            go_wp2_with fail
            have hba : ∀ o, Below w.heap.size w (w.alloc o) := fun o => (Below.refl _ _).alloc (Nat.le_refl _) o
            have HB := hide hba
            clear hba
            refine (fgood_any _ _ (hh.below (HB.out _)) (by rw [ByteArray.size_append]; unfold maxLen; show s.size + 1 ≤ _; omega)).mono ?_
            rw [hone.out, HG.out]
            rintro e w' ⟨rfl, rfl⟩
            go_wp2_with fail
            refine (fsum_any _ _ (hh.below (HB.out _)) HS.out).mono ?_
            rintro e w' ⟨rfl, rfl⟩
            go_wp2_with fail
            refine (works_any _ (hh.below (HB.out _))).mono ?_
            rintro e w' ⟨rfl, hb⟩
            go_wp2
            go_ret
            exact ⟨rfl, below_step (HB.out _) (Nat.le_refl _) hb⟩

end Go.Proofs.YtphmikaeenkdoaaDoor
