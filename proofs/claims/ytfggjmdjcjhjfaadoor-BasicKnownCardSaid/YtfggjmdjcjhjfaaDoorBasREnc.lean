/- The reference's Body and Encode: the walks. -/
import Derived.Test.YtfggjmdjcjhjfaaDoorBasRDec
namespace Go.Proofs.YtfggjmdjcjhjfaaDoor
open Go.RowKit
set_option linter.unusedVariables false
set_option linter.unusedSimpArgs false

/-- The frame's block, and nothing older has turned. -/
structure FrS (w : World) (d : Nat) (c : Bool) (k : Nat) (p : Bool) (s r : Nat) (i : ByteArray) (W : World) : Prop where
  fr : FrAt W w.heap.size d c k p s r i
  below : Below w.heap.size w W
theorem FrS.step {w W W' : World} {d k s r : Nat} {c p : Bool} {i : ByteArray} (h : FrS w d c k p s r i W) (hb : Below W.heap.size W W') : FrS w d c k p s r i W' := ⟨h.fr.below hb, below_step h.below (Nat.le_refl _) hb⟩
theorem FrS.drewN {w W : World} {d k s r : Nat} {c p : Bool} {i : ByteArray} (h : FrS w d c k p s r i W) (n : Nat) : FrS w d c k p s r i (W.drewN n) := ⟨h.fr.drewN n, below_drewN h.below n⟩
theorem frS_new (w : World) (d : Nat) (c : Bool) (k : Nat) (p : Bool) (s r : Nat) (i : ByteArray) : FrS w d c k p s r i (w.alloc (.cells #[.int .u8 (d : Int), .bool c, .int .u8 (k : Int), .bool p, .int .u8 (s : Int), .int .u8 (r : Int), .string i] 23)) :=
  ⟨frAt_new w d c k p s r i 23, (Below.refl _ _).alloc (Nat.le_refl _) _⟩

set_option maxRecDepth 100000 in
set_option maxHeartbeats 4000000 in
theorem rbody_any (d k s r : Nat) (c p : Bool) (i : ByteArray) (b : Bool) (w : World) (h0 : d ≤ 255) (h1 : k ≤ 255) (h2 : s ≤ 255) (h3 : r ≤ 255) (hi : i.size ≤ 1000) (hp : putOk k s r = true) :
    Calls Tryd.prog 17 #[.agg #[.int .u8 (d : Int), .bool c, .int .u8 (k : Int), .bool p, .int .u8 (s : Int), .int .u8 (r : Int), .string i], .bool b] w fun e w' => e = .returned (.string (bodyF d c k p s r i b)) ∧ Below w.heap.size w w' := by
  have D0 := frS_new w d c k p s r i
  have ha := eaA_le d (c == b)
  have hV9 := putN_lt p hp
  have HPUT := hide (fun W => rput_yes k p s r W h1 h2 h3 hp)
  have hLn : i.size ≤ 32767 := by omega
  obtain ⟨A, hA⟩ : ∃ A, eaA d (c == b) = A := ⟨_, rfl⟩
  obtain ⟨V, hV⟩ : ∃ V, putN k p s r = V := ⟨_, rfl⟩
  obtain ⟨X, hX⟩ : ∃ X, st [A, V] ++ st (lenL i.size) = X := ⟨_, rfl⟩
  have hX2 : headF d c k p s r i b = X := by unfold headF; rw [hA, hV, ← hX, st_append]
  have hE : bodyF d c k p s r i b = X ++ i ++ st [chk k X i] := by unfold bodyF; rw [hX2]
  have hXs : X.size ≤ 4 := by rw [← hX, ByteArray.size_append, st_size, st_size, lenL_len]; simp only [List.length_cons, List.length_nil]; split <;> omega
  rw [hV] at hV9 HPUT
  rw [hA] at ha
  rw [hE]
  have hck := chk_lt k X i
  obtain ⟨S, hS⟩ : ∃ S, chk k X i = S := ⟨_, rfl⟩
  rw [hS] at hck ⊢
  have HS := hide hS
  have HA := hide hA
  have HX := hide hX
  clear hX hX2 hE hA hV hp hS
  go_enter Tryd.func17, Tryd.ntmps17
  go_wp2_with fail
  refine (HPUT.out _).mono ?_
  rintro e w9 ⟨rfl, rfl⟩
  generalize w.alloc (.cells #[.int .u8 (d : Int), .bool c, .int .u8 (k : Int), .bool p, .int .u8 (s : Int), .int .u8 (r : Int), .string i] 23) = w2 at *
  go_upto_region 2 with (fail)
  go_cut [7] (fun s7 wx => s7 = .string X ∧ FrS w d c k p s r i wx)
  case first =>
    have hS : FrS w d c k p s r i w2.drew := D0.drewN 1
    have hcat : ¬ 9223372036854775807 < (st [A, V]).size + (st (lenL i.size)).size := by rw [st_size, st_size, lenL_len]; simp only [List.length_cons, List.length_nil]; split <;> omega
    refine wp_region_held (S := FrS w d c k p s r i) (by kernel_rfl) ?_
    change wpAnyH _ _ _ _ _ _ _ _ (World.drew _)
    generalize w2.drew = w5 at *
    have hcv := run_twoA w5 A V
    refine take_atH 0 21 hS rfl rfl (by kernel_rfl) (by kernel_rfl) (by kernel_rfl) (fun _ _ _ h => h) rfl (fun wq hq => by go_simp; first | done | with_reducible rfl) ?_
    simp only [Act.put, List.setIfInBounds_toArray, List.set_cons_zero, List.set_cons_succ]
    refine take_atH 1 22 hS rfl rfl (by kernel_rfl) (by kernel_rfl) (by kernel_rfl) (fun _ _ _ h => h) rfl (fun wq hq => by obtain ⟨⟨_, q0, q1, q2, q3, q4, q5, q6⟩, _⟩ := hq; go_simp; first | done | with_reducible rfl) ?_
    simp only [Act.put, List.setIfInBounds_toArray, List.set_cons_zero, List.set_cons_succ]
    refine take_atH 2 23 hS rfl rfl (by kernel_rfl) (by kernel_rfl) (by kernel_rfl) (fun _ _ _ h => h) rfl (fun wq hq => by go_simp; first | done | with_reducible rfl) ?_
    simp only [Act.put, List.setIfInBounds_toArray, List.set_cons_zero, List.set_cons_succ]
    refine take_atH 3 24 hS rfl rfl (by kernel_rfl) (by kernel_rfl) (by kernel_rfl) (fun _ _ _ h => h) rfl (fun wq hq => by obtain ⟨⟨_, q0, q1, q2, q3, q4, q5, q6⟩, _⟩ := hq; go_simp; first | done | with_reducible rfl) ?_
    simp only [Act.put, List.setIfInBounds_toArray, List.set_cons_zero, List.set_cons_succ]
    refine take_atH 4 25 hS rfl rfl (by kernel_rfl) (by kernel_rfl) (by kernel_rfl) (fun _ _ _ h => h) rfl (fun wq hq => by go_simp; first | done | with_reducible rfl) ?_
    simp only [Act.put, List.setIfInBounds_toArray, List.set_cons_zero, List.set_cons_succ]
    refine take_atH 5 26 hS rfl rfl (by kernel_rfl) (by kernel_rfl) (by kernel_rfl) (fun _ _ _ h => h) rfl (fun wq hq => by go_simp; first | done | with_reducible rfl) ?_
    simp only [Act.put, List.setIfInBounds_toArray, List.set_cons_zero, List.set_cons_succ]
    refine take_atH 7 28 hS rfl rfl (by kernel_rfl) (by kernel_rfl) (by kernel_rfl) (fun _ _ _ h => h) rfl (fun wq hq => by go_simp; first | done | with_reducible rfl) ?_
    simp only [Act.put, List.setIfInBounds_toArray, List.set_cons_zero, List.set_cons_succ]
    refine take_atH 10 31 hS rfl rfl (by kernel_rfl) (by kernel_rfl) (by kernel_rfl) (fun _ _ _ h => h) rfl (fun wq hq => by go_simp; first | done | with_reducible rfl) ?_
    simp only [Act.put, List.setIfInBounds_toArray, List.set_cons_zero, List.set_cons_succ]
    refine take_atH 11 32 hS rfl rfl (by kernel_rfl) (by kernel_rfl) (by kernel_rfl) (fun _ _ _ h => h) rfl (fun wq hq => by obtain ⟨⟨_, q0, q1, q2, q3, q4, q5, q6⟩, _⟩ := hq; go_simp; first | done | with_reducible rfl) ?_
    simp only [Act.put, List.setIfInBounds_toArray, List.set_cons_zero, List.set_cons_succ]
    refine take_atH 12 33 hS rfl rfl (by kernel_rfl) (by kernel_rfl) (by kernel_rfl) (fun _ _ _ h => h) rfl (fun wq hq => by go_simp; first | done | with_reducible rfl) ?_
    simp only [Act.put, List.setIfInBounds_toArray, List.set_cons_zero, List.set_cons_succ]
    refine lone_atH 6 rfl (by kernel_rfl) rfl (fun K hK => ?_)
    go_simp
    refine (raddress_any _ _ _ h0).mono ?_; rintro e w' ⟨rfl, rfl⟩; rw [HA.out]
    refine hK _ _ hS ?_; clear hK K
    refine two_atH 8 13 rfl rfl (by kernel_rfl) rfl rfl (fun K hK => ?_) (fun K hK => ?_)
    · go_simp
      refine (fun hN2 => hK _ _ hN2 ?_) (hS.step ((Below.refl _ _).alloc (Nat.le_refl _) _)); clear hK K
      refine two_atH 9 13 rfl rfl (by kernel_rfl) rfl rfl (fun K hK => ?_) (fun K hK => ?_)
      · go_simp
        refine hK _ _ hN2 ?_; clear hK K
        refine lone_atH 13 rfl (by kernel_rfl) rfl (fun K hK => ?_)
        go_simp
        refine (rlength_any _ _ hLn).mono ?_; rintro e wN4 ⟨rfl, bN4⟩; have hcB := run_twoA wN4 A V; try (have hcA := run_twoB wN4 w5 A V (Below.block bN4 _ (by simp)))
        refine (fun hN4 => hK _ _ hN4 ?_) (hN2.step bN4); clear hK K
        refine take_atH 14 35 hN4 rfl rfl (by kernel_rfl) (by kernel_rfl) (by kernel_rfl) (fun _ _ _ h => h) rfl (fun wq hq => by go_simp; first | done | with_reducible rfl) ?_
        simp only [Act.put, List.setIfInBounds_toArray, List.set_cons_zero, List.set_cons_succ]
        refine take_atH 15 7 hN4 rfl rfl (by kernel_rfl) (by kernel_rfl) (by kernel_rfl) (fun _ _ _ h => h) rfl (fun wq hq => by go_simp; first | done | with_reducible rfl) ?_
        simp only [Act.put, List.setIfInBounds_toArray, List.set_cons_zero, List.set_cons_succ]
        refine wpAnyH_done (by kernel_rfl) ?_ _
        go_wp2
        go_meet
        exact ⟨by rw [← HX.out], hN4⟩
      · go_simp
        refine (rlength_any _ _ hLn).mono ?_; rintro e wN5 ⟨rfl, bN5⟩; have hcB := run_twoA wN5 A V; try (have hcA := run_twoB wN5 w5 A V (Below.block bN5 _ (by simp)))
        refine (fun hN5 => hK _ _ hN5 ?_) (hN2.step bN5); clear hK K
        refine lone_atH 9 rfl (by kernel_rfl) rfl (fun K hK => ?_)
        go_simp
        refine hK _ _ hN5 ?_; clear hK K
        refine take_atH 14 35 hN5 rfl rfl (by kernel_rfl) (by kernel_rfl) (by kernel_rfl) (fun _ _ _ h => h) rfl (fun wq hq => by go_simp; first | done | with_reducible rfl) ?_
        simp only [Act.put, List.setIfInBounds_toArray, List.set_cons_zero, List.set_cons_succ]
        refine take_atH 15 7 hN5 rfl rfl (by kernel_rfl) (by kernel_rfl) (by kernel_rfl) (fun _ _ _ h => h) rfl (fun wq hq => by go_simp; first | done | with_reducible rfl) ?_
        simp only [Act.put, List.setIfInBounds_toArray, List.set_cons_zero, List.set_cons_succ]
        refine wpAnyH_done (by kernel_rfl) ?_ _
        go_wp2
        go_meet
        exact ⟨by rw [← HX.out], hN5⟩
    · go_simp
      refine (rlength_any _ _ hLn).mono ?_; rintro e wN7 ⟨rfl, bN7⟩; have hcB := run_twoA wN7 A V; try (have hcA := run_twoB wN7 w5 A V (Below.block bN7 _ (by simp)))
      refine (fun hN7 => hK _ _ hN7 ?_) (hS.step bN7); clear hK K
      refine lone_atH 8 rfl (by kernel_rfl) rfl (fun K hK => ?_)
      go_simp
      refine (fun hN8 => hK _ _ hN8 ?_) (hN7.step ((Below.refl _ _).alloc (Nat.le_refl _) _)); clear hK K
      refine lone_atH 9 rfl (by kernel_rfl) rfl (fun K hK => ?_)
      go_simp
      refine hK _ _ hN8 ?_; clear hK K
      refine take_atH 14 35 hN8 rfl rfl (by kernel_rfl) (by kernel_rfl) (by kernel_rfl) (fun _ _ _ h => h) rfl (fun wq hq => by go_simp; first | done | with_reducible rfl) ?_
      simp only [Act.put, List.setIfInBounds_toArray, List.set_cons_zero, List.set_cons_succ]
      refine take_atH 15 7 hN8 rfl rfl (by kernel_rfl) (by kernel_rfl) (by kernel_rfl) (fun _ _ _ h => h) rfl (fun wq hq => by go_simp; first | done | with_reducible rfl) ?_
      simp only [Act.put, List.setIfInBounds_toArray, List.set_cons_zero, List.set_cons_succ]
      refine wpAnyH_done (by kernel_rfl) ?_ _
      go_wp2
      go_meet
      exact ⟨by rw [← HX.out], hN8⟩
  case rest =>
    obtain ⟨rfl, D5⟩ := hcut
    obtain ⟨_, f0, f1, f2, f3, f4, f5, f6⟩ := D5.fr
    have hc1 : ¬ 9223372036854775807 < X.size + i.size := by omega
    have HS1 := hide (fun W => rfsum_any (X ++ i) W (by rw [ByteArray.size_append]; unfold maxLen; omega))
    have HS2 := hide (fun W => rfsum_any X W (by unfold maxLen; omega))
    clear HX HA HPUT D0
    by_cases hk : k = 5
    · have hc : fsum (bl X) = S := by rw [← HS.out]; unfold chk; rw [if_pos hk]
      have hkb : ((k : Int) == 5) = true := by rw [beq_iff_eq]; omega
      have hfl := fsum_lt (bl (X ++ i))
      rw [hc] at HS2
      have hc2 : ¬ 9223372036854775807 < X.size + i.size + (st [S]).size := by rw [st_size, List.length_singleton]; omega
      generalize fsum (bl (X ++ i)) = S9 at *
      have hcv := run_st wc.heap.size 1 1 [S] (wc.alloc (.cells #[.int .u8 (S : Int)] 5)) rfl (fun i hi => by
        obtain rfl : i = 0 := by omega
        exact World.cell?_alloc_new wc #[.int .u8 (S : Int)] 5 0)
      go_wp2_with fail
      refine (HS1.out _).mono ?_
      rintro e w6 ⟨rfl, rfl⟩
      go_wp2_with fail
      refine (HS2.out _).mono ?_
      rintro e w6 ⟨rfl, rfl⟩
      go_wp2
      go_ret
      exact ⟨rfl, D5.below.alloc D5.below.size _⟩
    · have hc : fsum (bl (X ++ i)) = S := by rw [← HS.out]; unfold chk; rw [if_neg hk]
      have hkb : ((k : Int) == 5) = false := by rw [beq_eq_false_iff_ne]; omega
      rw [hc] at HS1
      have hc2 : ¬ 9223372036854775807 < X.size + i.size + (st [S]).size := by rw [st_size, List.length_singleton]; omega
      have hcv := run_st wc.heap.size 1 1 [S] (wc.alloc (.cells #[.int .u8 (S : Int)] 5)) rfl (fun i hi => by
        obtain rfl : i = 0 := by omega
        exact World.cell?_alloc_new wc #[.int .u8 (S : Int)] 5 0)
      go_wp2_with fail
      refine (HS1.out _).mono ?_
      rintro e w6 ⟨rfl, rfl⟩
      go_wp2
      go_ret
      exact ⟨rfl, D5.below.alloc D5.below.size _⟩

theorem body_size (d k s r : Nat) (c p : Bool) (i : ByteArray) (b : Bool) : (bodyF d c k p s r i b).size ≤ i.size + 5 := by
  unfold bodyF headF
  rw [ByteArray.size_append, ByteArray.size_append, st_size, st_size, List.length_append, lenL_len]
  simp only [List.length_cons, List.length_nil]
  split <;> omega

set_option maxRecDepth 100000 in
set_option maxHeartbeats 4000000 in
theorem rencode4_any (d k s r : Nat) (c p : Bool) (i : ByteArray) (b : Bool) (n1 : Int) (w : World) (h0 : d ≤ 255) (h1 : k ≤ 255) (h2 : s ≤ 255) (h3 : r ≤ 255) (hi : i.size ≤ 100000) :
    Calls Tryd.prog 10 #[.agg #[.int .u8 (d : Int), .bool c, .int .u8 (k : Int), .bool p, .int .u8 (s : Int), .int .u8 (r : Int), .string i], .bool b, .int .i64 n1] w fun e w' => e = encR4 d c k p s r i b n1 ∧ Below w.heap.size w w' := by
  have D0 := frS_new w d c k p s r i
  by_cases hm : mayOk d c k s r i = false
  · have hR : encR4 d c k p s r i b n1 = .returned (.tuple #[.string ⟨#[]⟩, .int .i64 2]) := by unfold encR4; rw [if_pos (.inl hm)]
    rw [hR]
    have HM := hide hm
    clear hR hm
    go_enter Tryd.func10, Tryd.ntmps10
    go_wp2_with fail
    refine (rmay4_any d k s r c p i _ h0 h1 h2 h3).mono ?_
    rintro e w2 ⟨rfl, hb2⟩
    rw [HM.out]
    have D2 := D0.step hb2
    clear hb2 D0
    go_wp2
    go_ret2
    exact ⟨rfl, D2.below⟩
  have hm1 : mayOk d c k s r i = true := by simpa using hm
  have hpk : putOk k s r = true := by rw [mayOk_eq] at hm1; simp at hm1; exact hm1.1.1
  have HM := hide hm1
  by_cases h9 : eaA d (c == b) = 249
  · have hR : encR4 d c k p s r i b n1 = .returned (.tuple #[.string ⟨#[]⟩, .int .i64 2]) := by unfold encR4; rw [if_pos (.inr h9)]
    rw [hR]
    have H9 := hide h9
    clear hR hm hm1 hpk h9
    go_enter Tryd.func10, Tryd.ntmps10
    go_wp2_with fail
    refine (rmay4_any d k s r c p i _ h0 h1 h2 h3).mono ?_
    rintro e w2 ⟨rfl, hb2⟩
    rw [HM.out]
    have D2 := D0.step hb2
    obtain ⟨_, f0, f1, f2, f3, f4, f5, f6⟩ := D2.fr
    clear hb2 D0
    go_wp2_with fail
    refine (raddress_any _ _ _ h0).mono ?_
    rintro e w' ⟨rfl, rfl⟩
    rw [H9.out]
    go_wp2
    go_ret2
    exact ⟨rfl, D2.below⟩
  have hRR : encR4 d c k p s r i b n1 = if room n1 < (i.size : Int) then .returned (.tuple #[.string ⟨#[]⟩, .int .i64 3]) else .returned (.tuple #[.string (st [249] ++ bodyF d c k p s r i b ++ st [249]), .int .i64 0]) := by
    unfold encR4
    rw [if_neg (by rw [hm1]; simp; exact h9)]
  rw [hRR]
  have hae : ((eaA d (c == b) : Nat) : Int) ≠ 249 := by omega
  have ha := eaA_le d (c == b)
  obtain ⟨A, hA⟩ : ∃ A, eaA d (c == b) = A := ⟨_, rfl⟩
  rw [hA] at hae ha
  have h9b : ((A : Int) == 249) = false := by rw [beq_eq_false_iff_ne]; exact hae
  have HA := hide hA
  clear hRR hm hm1 h9 hA
  by_cases hr : room n1 < (i.size : Int)
  · rw [if_pos hr]
    go_enter Tryd.func10, Tryd.ntmps10
    go_wp2_with fail
    refine (rmay4_any d k s r c p i _ h0 h1 h2 h3).mono ?_
    rintro e w2 ⟨rfl, hb2⟩
    rw [HM.out]
    have D2 := D0.step hb2
    obtain ⟨_, f0, f1, f2, f3, f4, f5, f6⟩ := D2.fr
    clear hb2 D0
    go_wp2_with fail
    refine (raddress_any _ _ _ h0).mono ?_
    rintro e w' ⟨rfl, rfl⟩
    rw [HA.out]
    go_wp2
    go_quiet ((go_at_call 12; exact Calls.quiet_of_same (same_of (rroom_any _ _))))
    go_wp2
    go_ret2
    exact ⟨rfl, below_drewN D2.below _⟩
  · rw [if_neg hr]
    have hi2 : i.size ≤ 128 := by unfold room at hr; omega
    have HB := hide (fun W => rbody_any d k s r c p i b W h0 h1 h2 h3 (by omega) hpk)
    have hbs := body_size d k s r c p i b
    generalize bodyF d c k p s r i b = Y at *
    have hc1 : ¬ 9223372036854775807 < 1 + Y.size := by omega
    have hc2 : ¬ 9223372036854775807 < 1 + Y.size + 1 := by omega
    go_enter Tryd.func10, Tryd.ntmps10
    go_wp2_with fail
    refine (rmay4_any d k s r c p i _ h0 h1 h2 h3).mono ?_
    rintro e w2 ⟨rfl, hb2⟩
    rw [HM.out]
    have D2 := D0.step hb2
    obtain ⟨_, f0, f1, f2, f3, f4, f5, f6⟩ := D2.fr
    clear hb2 D0
    go_wp2_with fail
    refine (raddress_any _ _ _ h0).mono ?_
    rintro e w' ⟨rfl, rfl⟩
    rw [HA.out]
    go_wp2
    go_quiet ((go_at_call 12; exact Calls.quiet_of_same (same_of (rroom_any _ _))))
    have D3 := D2.drewN nq
    generalize w2.drewN nq = w3 at *
    clear f0 f1 f2 f3 f4 f5 f6
    obtain ⟨_, f0, f1, f2, f3, f4, f5, f6⟩ := D3.fr
    go_wp2_with fail
    refine (HB.out _).mono ?_
    rintro e w4 ⟨rfl, hb4⟩
    go_wp2
    go_ret2
    exact ⟨rfl, below_step D3.below (Nat.le_refl _) hb4⟩
end Go.Proofs.YtfggjmdjcjhjfaaDoor
