/- The walk of the law ClFew: it answers true. -/
import Derived.Test.YtkgdnpodohpppaaClSplitLaw
import Derived.IntWalk
namespace Go.Proofs.Ytkgdnpodohpppaa
open Go.RowKit
set_option linter.unusedVariables false
set_option linter.unusedSimpArgs false

theorem head_size (h : UInt8) : (ByteArray.mk #[h]).size = 1 := rfl
theorem pc_size (s : ByteArray) (size i : Nat) : (pc s size i).size = 1 + (min s.size (i * size + size) - i * size) := by
  unfold pc
  rw [ByteArray.size_append, ByteArray.size_extract, head_size, Nat.add_mul, Nat.one_mul]
  omega
theorem pcN_mul (L size : Nat) (h : 1 ≤ size) : L ≤ pcN L size * size ∧ (pcN L size * size - size < L ∨ pcN L size = 1) := by
  have hp := pcN_pos L size h
  refine ⟨?_, ?_⟩
  · have h1 := mt (pcN_more L size (pcN L size - 1) h).1 (by omega)
    have h2 : pcN L size * size = (pcN L size - 1) * size + size := by
      rw [← Nat.succ_mul]; congr 1; omega
    omega
  · by_cases h0 : pcN L size = 1
    · exact .inr h0
    · have h1 := (pcN_more L size (pcN L size - 2) h).2 (by omega)
      have h2 : pcN L size * size = (pcN L size - 2) * size + size + size := by
        rw [← Nat.succ_mul, ← Nat.succ_mul]; congr 1; omega
      exact .inl (by omega)
/-- All but the last piece are full; the last one holds something, but of an empty message. -/
theorem pc_full (s : ByteArray) (size i : Nat) (h : 1 ≤ size) (hi : i + 1 < pcN s.size size) : (pc s size i).size = size + 1 := by
  have h1 := (pcN_more s.size size i h).2 hi
  rw [pc_size]
  omega
theorem pc_end (s : ByteArray) (size : Nat) (h : 1 ≤ size) (hs : 0 < s.size) : 1 < (pc s size (pcN s.size size - 1)).size := by
  obtain ⟨h1, h2⟩ := pcN_mul s.size size h
  have hp := pcN_pos s.size size h
  have h3 : pcN s.size size * size = (pcN s.size size - 1) * size + size := by
    rw [← Nat.succ_mul]; congr 1; omega
  rw [pc_size]
  rcases h2 with h2 | h2
  · omega
  · rw [h2, Nat.sub_self, Nat.zero_mul]
    omega

set_option maxRecDepth 100000 in
set_option maxHeartbeats 2000000 in
theorem clFew_any (s : ByteArray) (n1 : Int) (w : World) (hs' : s.size ≤ maxLen) (hn1 : 0 ≤ n1) (hn2 : n1 ≤ 255) :
    Calls Try.prog 6 #[.string s, .int .u8 n1] w fun e w' => e = .returned (.bool true) ∧ Below w.heap.size w w' := by
  unfold maxLen at hs'
  by_cases hs : 1000 < s.size
  · go_enter Try.func6, Try.ntmps6
    go_wp2_with fail
    refine (works_any _).mono ?_
    rintro e w1 ⟨rfl, hb⟩
    go_wp2
    go_ret
    exact ⟨rfl, hb⟩
  by_cases hsm : n1 < 2
  · go_enter Try.func6, Try.ntmps6
    go_wp2_with fail
    refine (works_any _).mono ?_
    rintro e w1 ⟨rfl, hb⟩
    go_wp2
    go_ret
    exact ⟨rfl, hb⟩
  obtain ⟨size, hz, z1, z2⟩ := size_ex n1 (by omega)
  have HS := hide (fun w => split_ok s n1 size w (by omega) (by omega) hz (by omega))
  have hN := pcN_le s.size size (by omega)
  have hp := pcN_pos s.size size z1
  obtain ⟨m1, m2⟩ := pcN_mul s.size size z1
  have HF := hide (fun i => pc_full s size i z1)
  have HE := hide (pc_end s size z1)
  go_enter Try.func6, Try.ntmps6
  go_wp2_with fail
  refine (HS.out _).mono ?_
  intro e w1 h
  obtain ⟨a, c, rfl, hh, hb⟩ := split_holds h
  clear h HS
  generalize pcN s.size size = N at *
  generalize pc s size = f at *
  go_upto_region 4 with (fail)
  go_cut [7] from 24 to 27 (fun s7 wx => s7 = .int .i64 ((size : Int) + 1) ∧ wx = w1)
  case first =>
    have HZ := hide hz
    clear hz
    go_wp2
    go_meet
    exact ⟨congrArg (Value.int .i64) (by have := HZ.out; omega), rfl⟩
  case rest =>
  obtain ⟨rfl, rfl⟩ := hcut
  clear hz
  obtain ⟨P, hP⟩ : ∃ P : Nat, P = N * size - size := ⟨_, rfl⟩
  obtain ⟨Q, hQ⟩ : ∃ Q : Nat, Q = N * size := ⟨_, rfl⟩
  have p0 : size ≤ Q := by rw [hQ]; exact Nat.le_mul_of_pos_left _ (by omega)
  have p1 : ((N : Int) - 1) * (size : Int) = (P : Int) := by
    rw [hP, ← hQ, Int.sub_mul, Int.one_mul, ← Int.natCast_mul, ← hQ]; omega
  have p2 : (N : Int) * (size : Int) = (Q : Int) := by rw [hQ, Int.natCast_mul]
  have p3 : P + size = Q := by omega
  rw [← hQ] at m1 m2
  have p4 : P < s.size ∨ P = 0 := by
    rcases m2 with m2 | rfl
    · exact .inl (by omega)
    · exact .inr (by rw [hP]; omega)
  have t1 : ((N : Int) == 0) = false := by rw [beq_eq_false_iff_ne]; omega
  have t2 : ¬ max 0 ((s.size : Int) - 1) < (P : Int) := by omega
  have t3 : ¬ (Q : Int) < (s.size : Int) := by omega
  have b4 : -9223372036854775808 ≤ (P : Int) ∧ (P : Int) ≤ 9223372036854775807 := by omega
  have b5 : -9223372036854775808 ≤ (Q : Int) ∧ (Q : Int) ≤ 9223372036854775807 := by omega
  have t4 := IntWalk.wrap64_in _ b4
  have t5 := IntWalk.wrap64_in _ b5
  clear b4 b5
  have P3 := hide p3
  have P4 := hide p4
  clear hP hQ m1 m2 p0 p3 p4
  go_wp2
  clear t1 t2 t3 t4 t5 p1 p2
  go_loop [8] (fun i => ∃ j : Nat, j ≤ N - 1 ∧ i = .int .i64 (j : Int)) (fun i => N - (intOf i).toNat)
  case atStart => exact ⟨0, by omega, rfl⟩
  case round =>
    obtain ⟨j, hj, rfl⟩ := hrel
    obtain ⟨g, o, rfl, hg, hc⟩ := hh (by omega)
    have HC := hide hc
    clear hc hh
    by_cases hlt : j + 1 < N
    · have c0 := HC.out j (by omega)
      have z0 := HF.out j hlt
      have e1 : (j : Int) + 1 < (N : Int) := by omega
      have e2 : (((f j).size : Int) != (size : Int) + 1) = false := by rw [bne_eq_false_iff_eq]; omega
      clear z0
      go_wp2
      go_round
      case rel => exact ⟨j + 1, by omega, by go_num⟩
      case measure => simp [intOf]; omega
    · obtain ⟨M, rfl⟩ : ∃ M, N = M + 1 := ⟨N - 1, by omega⟩
      obtain rfl : j = M := by omega
      have c0 := HC.out j (by omega)
      have x1 : ((j + 1 : Nat) : Int) - 1 = (j : Int) := by omega
      have x2 : ¬ ((j : Int) + 1 < ((j + 1 : Nat) : Int)) := by omega
      by_cases h0 : s.size = 0
      · have hse : s = ⟨#[]⟩ := by
          apply ByteArray.ext
          exact Array.eq_empty_of_size_eq_zero (by have : s.size = s.data.size := rfl; omega)
        subst hse
        clear HE HF P3 P4 h0
        by_cases hb1 : 1 < (f j).size
        all_goals
          go_wp2_with fail
          refine (works_any _).mono ?_
          rintro e w2 ⟨rfl, hb2⟩
          go_wp2
          go_ret
          exact ⟨rfl, below_step hb (Nat.le_refl _) hb2⟩
      · have z0 := HE.out (by omega)
        rw [Nat.add_sub_cancel] at z0
        clear HE HF P3 P4
        go_wp2_with fail
        refine (works_any _).mono ?_
        rintro e w2 ⟨rfl, hb2⟩
        go_wp2
        go_ret
        exact ⟨rfl, below_step hb (Nat.le_refl _) hb2⟩

end Go.Proofs.Ytkgdnpodohpppaa
