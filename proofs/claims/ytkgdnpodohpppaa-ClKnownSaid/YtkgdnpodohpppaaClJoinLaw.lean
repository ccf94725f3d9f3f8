/- The reference's joiner, and the walk of the law ClJoin. -/
import Derived.Test.YtkgdnpodohpppaaClWorks
namespace Go.Proofs.Ytkgdnpodohpppaa
open Go.RowKit
set_option linter.unusedVariables false
set_option linter.unusedSimpArgs false

theorem ne_empty (s : ByteArray) (h0 : 0 < s.size) : ¬ s.toList = [] ∧ s.toList.isEmpty = false := by
  have hne : ¬ s.toList = [] := fun e => by
    rw [Lib.toList_data] at e
    have := Lib.size_eq s
    rw [e] at this
    simp only [List.length_nil] at this
    omega
  exact ⟨hne, by cases hl : s.toList with | nil => exact absurd hl hne | cons _ _ => rfl⟩

/-- The reference's answer, by the head octet. -/
theorem joinR_bad (I : Bool) (s : ByteArray) (h0 : 0 < s.size) (h : s[0].toNat % 64 ≠ 1) : joinR I s = .returned (.tuple #[.string ⟨#[]⟩, .bool false, .int .i64 70]) ∧ joinI I s = I := by
  unfold joinR joinI; rw [dif_pos h0, dif_pos h0, if_pos h, if_pos h]; exact ⟨rfl, rfl⟩
theorem joinR_state (I : Bool) (s : ByteArray) (h0 : 0 < s.size) (h : ¬ s[0].toNat % 64 ≠ 1) (hf : I = decide (128 ≤ s[0].toNat)) : joinR I s = .returned (.tuple #[.string ⟨#[]⟩, .bool false, .int .i64 4]) ∧ joinI I s = I := by
  unfold joinR joinI; rw [dif_pos h0, dif_pos h0, if_neg h, if_neg h, if_pos hf, if_pos hf]; exact ⟨rfl, rfl⟩
theorem joinR_ok (I : Bool) (s : ByteArray) (h0 : 0 < s.size) (h : ¬ s[0].toNat % 64 ≠ 1) (hf : ¬ I = decide (128 ≤ s[0].toNat)) :
    joinR I s = .returned (.tuple #[.string (s.extract 1 s.size), .bool (decide (64 ≤ s[0].toNat % 128)), .int .i64 0]) ∧ joinI I s = !decide (64 ≤ s[0].toNat % 128) := by
  unfold joinR joinI; rw [dif_pos h0, dif_pos h0, if_neg h, if_neg h, if_neg hf, if_neg hf]; exact ⟨rfl, rfl⟩

set_option maxHeartbeats 4000000 in
theorem rput_any (b : Nat) (I : Bool) (s : ByteArray) (w : World) (h : JoinAt w b I) (hlim : s.size ≤ 281474976710656) :
    Calls Try.prog 14 #[.pointer (some ⟨b, 0, none⟩), .string s] w fun e w' => e = joinR I s ∧ JoinAt w' b (joinI I s) ∧ w.grownBy w' (some b) := by
  have c0 := h.c0
  have f0 := h.f0
  by_cases h0 : 0 < s.size
  · have hlt : s[0].toNat < 256 := s[0].toNat_lt
    obtain ⟨hne, hem⟩ := ne_empty s h0
    by_cases hb : s[0].toNat % 64 ≠ 1
    · obtain ⟨hR, hI⟩ := joinR_bad I s h0 hb
      rw [hR, hI]
      have t1 : ((s[0].toNat : Int) != 1) = true := by rw [bne_iff_ne]; omega
      have t2 : ((s[0].toNat : Int) != 65) = true := by rw [bne_iff_ne]; omega
      have t3 : ((s[0].toNat : Int) != 129) = true := by rw [bne_iff_ne]; omega
      have t4 : ((s[0].toNat : Int) != 193) = true := by rw [bne_iff_ne]; omega
      clear hb hR hI
      go_enter Try.func14, Try.ntmps14
      go_wp2
      go_ret3
      exact ⟨rfl, h, World.grownBy.refl _ _⟩
    · have hv : s[0].toNat = 1 ∨ s[0].toNat = 65 ∨ s[0].toNat = 129 ∨ s[0].toNat = 193 := by omega
      by_cases hf : I = decide (128 ≤ s[0].toNat)
      · obtain ⟨hR, hI⟩ := joinR_state I s h0 hb hf
        rw [hR, hI]
        clear hR hI hb hlim
        rcases hv with hv | hv | hv | hv
        all_goals
          rw [hv] at hf
          obtain rfl : I = _ := hf
          have hvI := congrArg (Nat.cast (R := Int)) hv
          clear hv
          go_enter Try.func14, Try.ntmps14
          go_wp2
          go_ret3
          exact ⟨rfl, h, World.grownBy.refl _ _⟩
      · obtain ⟨hR, hI⟩ := joinR_ok I s h0 hb hf
        rw [hR, hI]
        have hJ := fun X => join_set (X := X) h
        clear hR hI hb hlim
        rcases hv with hv | hv | hv | hv
        all_goals
          rw [hv] at hf
          rw [hv]
          have hvI := congrArg (Nat.cast (R := Int)) hv
          have h1 : 1 ≤ s.size := h0
          clear hv
          cases I
          all_goals first
            | (exact absurd rfl hf)
            | (clear hf
               have HJ := hide hJ
               clear hJ
               go_enter Try.func14, Try.ntmps14
               go_wp2
               go_ret3
               exact ⟨rfl, (HJ.out _).1, (HJ.out _).2⟩)
  · have hs : s = ⟨#[]⟩ := by
      apply ByteArray.ext
      exact Array.eq_empty_of_size_eq_zero (by have : s.size = s.data.size := rfl; omega)
    subst hs
    have hR : joinR I ⟨#[]⟩ = .returned (.tuple #[.string ⟨#[]⟩, .bool false, .int .i64 70]) := by unfold joinR; rw [dif_neg h0]
    have hI : joinI I ⟨#[]⟩ = I := by unfold joinI; rw [dif_neg h0]
    rw [hR, hI]
    clear hR hI h0
    go_enter Try.func14, Try.ntmps14
    go_wp2
    go_ret3
    exact ⟨rfl, h, World.grownBy.refl _ _⟩

theorem joinR_form (I : Bool) (s : ByteArray) : ∃ x y z, joinR I s = .returned (.tuple #[.string x, .bool y, .int .i64 z]) := by
  unfold joinR
  split
  · split
    · exact ⟨_, _, _, rfl⟩
    · split <;> exact ⟨_, _, _, rfl⟩
  · exact ⟨_, _, _, rfl⟩

set_option maxRecDepth 100000 in
set_option maxHeartbeats 2000000 in
theorem clJoin_any (a : Option Addr) (n c : Nat) (f : Nat → ByteArray) (w : World) (hh : HoldsS w a n f) (hb : n ≤ maxLen ∧ ∀ j, j < n → (f j).size ≤ maxLen) :
    Calls Try.prog 4 #[.slice a n c] w fun e w' => e = .returned (.bool true) ∧ Below w.heap.size w w' := by
  obtain ⟨hn, hl⟩ := hb
  unfold maxLen at hn hl
  by_cases h100 : 100 < n
  · go_enter Try.func4, Try.ntmps4
    go_wp2_with fail
    refine (works_any _).mono ?_
    rintro e w1 ⟨rfl, hb⟩
    go_wp2
    go_ret
    exact ⟨rfl, hb⟩
  · have HL := hide hl
    clear hl
    go_enter Try.func4, Try.ntmps4
    go_wp2_with fail
    refine (jnew_own _).mono ?_
    rintro e w1 ⟨rfl, J1, b1⟩
    have b1' := b1.alloc b1.size (.cells #[.bool false] 33)
    have J2 : JoinAt (w1.alloc (.cells #[.bool false] 33)) w1.heap.size false := ⟨World.cell?_alloc_new _ _ _ _, World.frozen?_alloc_at _ _ _ _ rfl⟩
    have J1' := J1.below ((Below.refl _ _).alloc (Nat.le_refl _) (.cells #[.bool false] 33))
    have hlt := J1.block
    go_wp2
    go_loopw [5] (fun i wr => ∃ k : Nat, ∃ I, k ≤ n ∧ i = .int .i64 (k : Int) ∧ JoinAt wr w.heap.size I ∧ JoinAt wr w1.heap.size I ∧ Below w.heap.size w wr) (fun i _ => n - (intOf i).toNat)
    case atStart => exact ⟨0, false, by omega, rfl, J1', J2, b1'⟩
    case round =>
      obtain ⟨k, I, hk, rfl, K1, K2, hB⟩ := hrel
      clear J1 J1' J2 b1 b1'
      have hsz := hB.size
      by_cases hkn : k < n
      · obtain ⟨g, o, rfl, hg, hc⟩ := hh (by omega)
        have e0 := hc k hkn
        have e1 := (hB.cell (p := ⟨g, o + k, none⟩) hg).trans e0
        have e3 : (k : Int) < (n : Int) := by omega
        have hk9 := HL.out k hkn
        clear hc
        by_cases h200 : 200 < (f k).size
        · go_wp2_with fail
          refine (works_any _).mono ?_
          rintro e w2 ⟨rfl, hb⟩
          go_wp2
          go_ret
          exact ⟨rfl, below_step hB (Nat.le_refl _) hb⟩
        · go_wp2_with fail
          refine (jput_any _ _ _ _ K1 (by omega)).mono ?_
          rintro e w2 ⟨rfl, L1, g2⟩
          obtain ⟨x, y, z, hx⟩ := joinR_form I (f k)
          rw [hx]
          have HX := hide hx
          clear hx
          have B2 := hB.trans (join_below g2 hsz (Nat.le_refl _))
          have e2 := (B2.cell (p := ⟨g, o + k, none⟩) hg).trans e0
          have M2 := K2.other g2 (by omega)
          clear e1 K1 K2 g2
          go_wp2_with fail
          refine (rput_any _ _ _ _ M2 (by omega)).mono ?_
          rintro e w3 ⟨rfl, L2, g3⟩
          rw [HX.out]
          have B3 := B2.trans (join_below g3 B2.size (by omega))
          have M1 := L1.other g3 (by omega)
          clear e2 e0 M2 L1 g3 HX
          generalize joinI I (f k) = I' at *
          have c0 := L2.c0
          have HM := hide M1
          clear M1 hB B2
          go_wp2
          go_quiet ((go_at_call 15; exact Calls.quiet_of_same (same_of (within_any _ _ _ (HM.out.drewN _)))))
          go_wp2
          go_roundw
          case rel => exact ⟨k + 1, I', hkn, by go_num, HM.out.drewN _, L2.drewN _, below_drewN B3 _⟩
          case measure => simp [intOf]; omega
      · obtain rfl : k = n := by omega
        go_wp2_with fail
        refine (works_any _).mono ?_
        rintro e w2 ⟨rfl, hb⟩
        go_wp2
        go_ret
        exact ⟨rfl, below_step hB (Nat.le_refl _) hb⟩

end Go.Proofs.Ytkgdnpodohpppaa
