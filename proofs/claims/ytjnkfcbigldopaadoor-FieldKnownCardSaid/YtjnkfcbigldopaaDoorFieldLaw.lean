/- The walks of chapter 3's laws FieldPut, FieldGet, FieldKinds: each answers true. -/
import Derived.Test.YtjnkfcbigldopaaDoorFieldTests
namespace Go.Proofs.YtjnkfcbigldopaaDoor
open Go.RowKit
set_option linter.unusedVariables false
set_option linter.unusedSimpArgs false

set_option maxHeartbeats 4000000 in
set_option maxRecDepth 100000 in
theorem fieldPut_any (k : Int) (p : Bool) (s r : Int) (w : World) (hh : Octs w) (k1 : 0 ≤ k) (k2 : k ≤ 255) (s1 : 0 ≤ s) (s2 : s ≤ 255) (r1 : 0 ≤ r) (r2 : r ≤ 255) :
    Calls Tryd.prog 3 #[.int .u8 k, .bool p, .int .u8 s, .int .u8 r] w fun e w' => e = .returned (.bool true) ∧ Below w.heap.size w w' := by
  obtain ⟨k, rfl⟩ := Int.eq_ofNat_of_zero_le k1
  obtain ⟨s, rfl⟩ := Int.eq_ofNat_of_zero_le s1
  obtain ⟨r, rfl⟩ := Int.eq_ofNat_of_zero_le r1
  obtain ⟨V, E, hR⟩ : ∃ V E : Int, putR k p s r = .returned (.tuple #[.int .u8 V, .int .i64 E]) := ⟨_, _, rfl⟩
  have HR := hide hR
  clear hR
  have a1 := hide (fput_any k p s r w hh (by omega) (by omega) (by omega))
  have a2 := hide (rput_any k p s r w (by omega) (by omega) (by omega))
  go_enter Tryd.func3, Tryd.ntmps3
  go_wp2_with fail
  refine a1.out.mono ?_
  rw [HR.out]
  rintro e w' ⟨rfl, rfl⟩
  go_wp2_with fail
  refine a2.out.mono ?_
  rw [HR.out]
  rintro e w' ⟨rfl, rfl⟩
  go_wp2_with fail
  refine (fworks_any _ hh).mono ?_
  rintro e w' ⟨rfl, rfl⟩
  go_wp2
  go_ret
  exact ⟨rfl, Below.refl _ _⟩

set_option maxHeartbeats 4000000 in
set_option maxRecDepth 100000 in
theorem fieldGet_any (c : Int) (w : World) (hh : Octs w) (c1 : 0 ≤ c) (c2 : c ≤ 255) :
    Calls Tryd.prog 4 #[.int .u8 c] w fun e w' => e = .returned (.bool true) ∧ Below w.heap.size w w' := by
  obtain ⟨c, rfl⟩ := Int.eq_ofNat_of_zero_le c1
  obtain ⟨K, P, S, R, E, hR⟩ : ∃ (K : Int) (P : Bool) (S R E : Int), getR c = .returned (.tuple #[.int .u8 K, .bool P, .int .u8 S, .int .u8 R, .int .i64 E]) := ⟨_, _, _, _, _, rfl⟩
  have HR := hide hR
  clear hR
  have a1 := hide (fget_any c w hh (by omega))
  have a2 := hide (rget_any c w (by omega))
  go_enter Tryd.func4, Tryd.ntmps4
  go_wp2_with fail
  refine a1.out.mono ?_
  rw [HR.out]
  rintro e w' ⟨rfl, rfl⟩
  go_wp2_with fail
  refine a2.out.mono ?_
  rw [HR.out]
  rintro e w' ⟨rfl, rfl⟩
  go_wp2_with fail
  refine (fworks_any _ hh).mono ?_
  rintro e w' ⟨rfl, rfl⟩
  go_wp2
  go_ret
  exact ⟨rfl, Below.refl _ _⟩

theorem may_some (k : Nat) : (mayF k true || mayF k false) = decide (1 ≤ k ∧ k ≤ 10) := by
  unfold mayF
  by_cases h1 : k = 1 ∨ k = 4
  · rw [if_pos h1, if_pos h1]; simp; omega
  · rw [if_neg h1, if_neg h1]
    by_cases h2 : k = 2 ∨ k = 3
    · rw [if_pos h2, if_pos h2]; simp; omega
    · rw [if_neg h2, if_neg h2, Bool.or_self]; exact decide_eq_decide.2 (by omega)

set_option maxHeartbeats 4000000 in
set_option maxRecDepth 100000 in
theorem fieldKinds_any (k : Int) (y : Bool) (w : World) (hh : Octs w) (k1 : 0 ≤ k) (k2 : k ≤ 255) :
    Calls Tryd.prog 5 #[.int .u8 k, .bool y] w fun e w' => e = .returned (.bool true) ∧ Below w.heap.size w w' := by
  obtain ⟨k, rfl⟩ := Int.eq_ofNat_of_zero_le k1
  have hm := may_some k
  have a1 := hide (fun c => fmay_any k c w (by omega))
  have a2 := hide (rmay_any k y w (by omega))
  have a3 := hide (fcarries_any k w (by omega))
  have a4 := hide (rcarries_any k w (by omega))
  obtain ⟨A, hA⟩ : ∃ A, mayF k true = A := ⟨_, rfl⟩
  obtain ⟨B, hB⟩ : ∃ B, mayF k false = B := ⟨_, rfl⟩
  rw [hA, hB] at hm
  have HA := hide hA
  have HB := hide hB
  clear hA hB
  by_cases hr : 1 ≤ k ∧ k ≤ 10
  · rw [decide_eq_true hr] at hm
    obtain ⟨r1, r2⟩ := hr
    have hAB : (A = true ∨ A = false ∧ B = true) := by cases A <;> cases B <;> simp_all
    clear hm
    rcases hAB with rfl | ⟨rfl, rfl⟩
    · go_enter Tryd.func5, Tryd.ntmps5
      go_wp2_with fail
      refine (a1.out true).mono ?_
      rw [HA.out]
      rintro e w' ⟨rfl, rfl⟩
      go_wp2_with fail
      refine a3.out.mono ?_
      rintro e w' ⟨rfl, rfl⟩
      go_wp2_with fail
      refine a4.out.mono ?_
      rintro e w' ⟨rfl, rfl⟩
      go_wp2_with fail
      refine (a1.out y).mono ?_
      rintro e w' ⟨rfl, rfl⟩
      go_wp2_with fail
      refine a2.out.mono ?_
      rintro e w' ⟨rfl, rfl⟩
      go_wp2_with fail
      refine (fworks_any _ hh).mono ?_
      rintro e w' ⟨rfl, rfl⟩
      go_wp2
      go_ret
      exact ⟨rfl, Below.refl _ _⟩
    · go_enter Tryd.func5, Tryd.ntmps5
      go_wp2_with fail
      refine (a1.out true).mono ?_
      rw [HA.out]
      rintro e w' ⟨rfl, rfl⟩
      go_wp2_with fail
      refine (a1.out false).mono ?_
      rw [HB.out]
      rintro e w' ⟨rfl, rfl⟩
      go_wp2_with fail
      refine a3.out.mono ?_
      rintro e w' ⟨rfl, rfl⟩
      go_wp2_with fail
      refine a4.out.mono ?_
      rintro e w' ⟨rfl, rfl⟩
      go_wp2_with fail
      refine (a1.out y).mono ?_
      rintro e w' ⟨rfl, rfl⟩
      go_wp2_with fail
      refine a2.out.mono ?_
      rintro e w' ⟨rfl, rfl⟩
      go_wp2_with fail
      refine (fworks_any _ hh).mono ?_
      rintro e w' ⟨rfl, rfl⟩
      go_wp2
      go_ret
      exact ⟨rfl, Below.refl _ _⟩
  · rw [decide_eq_false hr] at hm
    have hAB : A = false ∧ B = false := by cases A <;> cases B <;> simp_all
    clear hm
    obtain ⟨rfl, rfl⟩ := hAB
    by_cases h0 : k < 1
    · clear hr
      go_enter Tryd.func5, Tryd.ntmps5
      go_wp2_with fail
      refine (a1.out true).mono ?_
      rw [HA.out]
      rintro e w' ⟨rfl, rfl⟩
      go_wp2_with fail
      refine (a1.out false).mono ?_
      rw [HB.out]
      rintro e w' ⟨rfl, rfl⟩
      go_wp2_with fail
      refine a3.out.mono ?_
      rintro e w' ⟨rfl, rfl⟩
      go_wp2_with fail
      refine a4.out.mono ?_
      rintro e w' ⟨rfl, rfl⟩
      go_wp2_with fail
      refine (a1.out y).mono ?_
      rintro e w' ⟨rfl, rfl⟩
      go_wp2_with fail
      refine a2.out.mono ?_
      rintro e w' ⟨rfl, rfl⟩
      go_wp2_with fail
      refine (fworks_any _ hh).mono ?_
      rintro e w' ⟨rfl, rfl⟩
      go_wp2
      go_ret
      exact ⟨rfl, Below.refl _ _⟩
    · have h11 : 10 < k := by omega
      clear hr
      go_enter Tryd.func5, Tryd.ntmps5
      go_wp2_with fail
      refine (a1.out true).mono ?_
      rw [HA.out]
      rintro e w' ⟨rfl, rfl⟩
      go_wp2_with fail
      refine (a1.out false).mono ?_
      rw [HB.out]
      rintro e w' ⟨rfl, rfl⟩
      go_wp2_with fail
      refine a3.out.mono ?_
      rintro e w' ⟨rfl, rfl⟩
      go_wp2_with fail
      refine a4.out.mono ?_
      rintro e w' ⟨rfl, rfl⟩
      go_wp2_with fail
      refine (a1.out y).mono ?_
      rintro e w' ⟨rfl, rfl⟩
      go_wp2_with fail
      refine a2.out.mono ?_
      rintro e w' ⟨rfl, rfl⟩
      go_wp2_with fail
      refine (fworks_any _ hh).mono ?_
      rintro e w' ⟨rfl, rfl⟩
      go_wp2
      go_ret
      exact ⟨ret_bool (by show (!decide ((k : Int) ≤ 10)) = true; rw [decide_eq_false (by omega)]; rfl), Below.refl _ _⟩

end Go.Proofs.YtjnkfcbigldopaaDoor
