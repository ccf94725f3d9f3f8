/- The reference's Encode: the walk. -/
import Derived.Test.YtflooblecbhcoaaDoorAdvEnc
namespace Go.Proofs.YtflooblecbhcoaaDoor
open Go.RowKit
set_option linter.unusedVariables false
set_option linter.unusedSimpArgs false

/-- The frame's block, and nothing older has turned. -/
def FrB (w : World) (d : Nat) (c : Bool) (k : Nat) (p : Bool) (s r : Nat) (i : ByteArray) (W : World) : Prop := FrAt W w.heap.size d c k p s r i ∧ Below w.heap.size w W
theorem enc_text (k : Nat) (o : ByteArray) : ((⟨#[126]⟩ : ByteArray) ++ st (stuff (bl (o ++ st [fsum (bl (cov k o))])))) ++ ⟨#[126]⟩ = st (encL k o) := by
  have h1 : bl (o ++ st [fsum (bl (cov k o))]) = bl o ++ [fsum (bl (cov k o))] := by rw [bl_append, bl_st (bytes_cons (fsum_lt _) bytes_nil)]
  rw [h1, show (⟨#[126]⟩ : ByteArray) = st [126] from rfl, st_append, st_append]
  rfl

set_option maxRecDepth 100000 in
set_option maxHeartbeats 4000000 in
theorem rencode_any (d k s r : Nat) (c p : Bool) (i : ByteArray) (b : Bool) (n1 : Int) (w : World) (h0 : d ≤ 255) (h1 : k ≤ 255) (h2 : s ≤ 255) (h3 : r ≤ 255) (hi : i.size ≤ maxLen) :
    Calls Tryd.prog 11 #[.agg #[.int .u8 (d : Int), .bool c, .int .u8 (k : Int), .bool p, .int .u8 (s : Int), .int .u8 (r : Int), .string i], .bool b, .int .i64 n1] w fun e w' => e = encR d c k p s r i b n1 ∧ Below w.heap.size w w' := by
  unfold maxLen at hi
  have B0 := (Below.refl w.heap.size w).alloc (Nat.le_refl _) (.cells #[.int .u8 (d : Int), .bool c, .int .u8 (k : Int), .bool p, .int .u8 (s : Int), .int .u8 (r : Int), .string i] 23)
  have F0 := frAt_new w d c k p s r i 23
  by_cases hm : mayOk d c k s r i = false
  · have hR : encR d c k p s r i b n1 = .returned (.tuple #[.string ⟨#[]⟩, .int .i64 2]) := by unfold encR; rw [if_pos hm]
    rw [hR]
    have HM := hide hm
    clear hR hm
    go_enter Tryd.func11, Tryd.ntmps11
    go_wp2_with fail
    refine (rmay5_any d k s r c p i _ h0 h1 h2 h3).mono ?_
    rintro e w2 ⟨rfl, hb2⟩
    rw [HM.out]
    have B2 := below_step B0 (Nat.le_refl _) hb2
    clear hb2 B0 F0
    go_wp2
    go_ret2
    exact ⟨rfl, B2⟩
  · have hm1 : mayOk d c k s r i = true := by simpa using hm
    have hpk : putOk k s r = true := by unfold mayOk at hm1; simp at hm1; exact hm1.1.1.1
    have hm9 : putN k p s r ≤ 255 := putN_lt p hpk
    have HM := hide hm1
    have HP := hide hpk
    by_cases hr : room n1 < (i.size : Int)
    · have hR : encR d c k p s r i b n1 = .returned (.tuple #[.string ⟨#[]⟩, .int .i64 3]) := by unfold encR; rw [if_neg hm, if_pos hr]
      rw [hR]
      clear hR hm hm1 hpk
      go_enter Tryd.func11, Tryd.ntmps11
      go_wp2_with fail
      refine (rmay5_any d k s r c p i _ h0 h1 h2 h3).mono ?_
      rintro e w2 ⟨rfl, hb2⟩
      rw [HM.out]
      have B2 := below_step B0 (Nat.le_refl _) hb2
      have F2 := F0.below hb2
      clear hb2 B0 F0
      have c6 := F2.c6
      go_wp2
      go_quiet ((go_at_call 25; exact Calls.quiet_of_same (same_of (rlimit_any _ _))))
      go_wp2
      go_ret2
      exact ⟨rfl, below_drewN B2 _⟩
    · have hR : encR d c k p s r i b n1 = .returned (.tuple #[.string (st (encL k (octF d c k p s r i b))), .int .i64 0]) := by unfold encR; rw [if_neg hm, if_neg hr]
      rw [hR]
      clear hR hm hm1 hpk
      have hi2 : i.size ≤ 128 := by unfold room at hr; omega
      have ha := eaA_le d (c == b)
      go_enter Tryd.func11, Tryd.ntmps11
      go_wp2_with fail
      refine (rmay5_any d k s r c p i _ h0 h1 h2 h3).mono ?_
      rintro e w2 ⟨rfl, hb2⟩
      rw [HM.out]
      have B2 := below_step B0 (Nat.le_refl _) hb2
      have F2 := F0.below hb2
      clear hb2 B0 F0
      have c6 := F2.c6
      go_wp2
      go_quiet ((go_at_call 25; exact Calls.quiet_of_same (same_of (rlimit_any _ _))))
      have F3 := F2.drewN nq
      have B3 := below_drewN B2 nq
      generalize w2.drewN nq = w3 at *
      have c2 := F3.c2
      have c3 := F3.c3
      have c4 := F3.c4
      have c5 := F3.c5
      clear F2 B2 c6
      go_wp2_with fail
      refine (rput_yes k p s r _ h1 h2 h3 HP.out).mono ?_
      rintro e w4 ⟨rfl, rfl⟩
      clear c2 c3 c4 c5
      go_upto_region 6 with (fail)
      go_cut [10] (fun s10 wx => s10 = .string (st [eaA d (c == b), putN k p s r]) ∧ FrB w d c k p s r i wx)
      case first =>
        have hS : FrB w d c k p s r i w3.drew := ⟨F3.drewN 1, B3.drew⟩
        have hcat : ¬ 9223372036854775807 < (st [eaA d (c == b)]).size + (st [putN k p s r]).size := by rw [st_size, st_size, List.length_singleton, List.length_singleton]; omega
        refine wp_region_held (S := FrB w d c k p s r i) (by kernel_rfl) ?_
        change wpAnyH _ _ _ _ _ _ _ _ (World.drew _)
        refine take_atH 0 32 hS rfl rfl (by kernel_rfl) (by kernel_rfl) (by kernel_rfl) (fun _ _ _ h => h) rfl (fun wq hq => by go_simp; first | done | with_reducible rfl) ?_
        simp only [Act.put, List.setIfInBounds_toArray, List.set_cons_zero, List.set_cons_succ]
        refine take_atH 1 33 hS rfl rfl (by kernel_rfl) (by kernel_rfl) (by kernel_rfl) (fun _ _ _ h => h) rfl (fun wq hq => by obtain ⟨⟨_, q0, q1, _, _, _, _, q6⟩, _⟩ := hq; go_simp; first | done | with_reducible rfl) ?_
        simp only [Act.put, List.setIfInBounds_toArray, List.set_cons_zero, List.set_cons_succ]
        refine take_atH 2 34 hS rfl rfl (by kernel_rfl) (by kernel_rfl) (by kernel_rfl) (fun _ _ _ h => h) rfl (fun wq hq => by go_simp; first | done | with_reducible rfl) ?_
        simp only [Act.put, List.setIfInBounds_toArray, List.set_cons_zero, List.set_cons_succ]
        refine take_atH 3 35 hS rfl rfl (by kernel_rfl) (by kernel_rfl) (by kernel_rfl) (fun _ _ _ h => h) rfl (fun wq hq => by obtain ⟨⟨_, q0, q1, _, _, _, _, q6⟩, _⟩ := hq; go_simp; first | done | with_reducible rfl) ?_
        simp only [Act.put, List.setIfInBounds_toArray, List.set_cons_zero, List.set_cons_succ]
        refine take_atH 4 36 hS rfl rfl (by kernel_rfl) (by kernel_rfl) (by kernel_rfl) (fun _ _ _ h => h) rfl (fun wq hq => by go_simp; first | done | with_reducible rfl) ?_
        simp only [Act.put, List.setIfInBounds_toArray, List.set_cons_zero, List.set_cons_succ]
        refine take_atH 8 40 hS rfl rfl (by kernel_rfl) (by kernel_rfl) (by kernel_rfl) (fun _ _ _ h => h) rfl (fun wq hq => by go_simp; first | done | with_reducible rfl) ?_
        simp only [Act.put, List.setIfInBounds_toArray, List.set_cons_zero, List.set_cons_succ]
        refine lone_atH 5 rfl (by kernel_rfl) rfl (fun K hK => ?_)
        go_simp
        refine (bit_any _ _ _).mono ?_; rintro e w' ⟨rfl, rfl⟩
        refine hK _ _ hS ?_; clear hK K
        refine lone_atH 6 rfl (by kernel_rfl) rfl (fun K hK => ?_)
        go_simp
        refine (raddress_any _ _ _ h0).mono ?_; rintro e w' ⟨rfl, rfl⟩
        refine hK _ _ hS ?_; clear hK K
        refine lone_atH 7 rfl (by kernel_rfl) rfl (fun K hK => ?_)
        go_simp
        refine (one_any _ _ ha).mono ?_; rintro e wN3 ⟨rfl, bN3⟩
        refine (fun hN3 => hK _ _ hN3 ?_) (⟨(hS).1.below bN3, below_step (hS).2 (Nat.le_refl _) bN3⟩); clear hK K
        refine lone_atH 9 rfl (by kernel_rfl) rfl (fun K hK => ?_)
        go_simp
        refine (one_any _ _ hm9).mono ?_; rintro e wN4 ⟨rfl, bN4⟩
        refine (fun hN4 => hK _ _ hN4 ?_) (⟨(hN3).1.below bN4, below_step (hN3).2 (Nat.le_refl _) bN4⟩); clear hK K
        refine take_atH 10 42 hN4 rfl rfl (by kernel_rfl) (by kernel_rfl) (by kernel_rfl) (fun _ _ _ h => h) rfl (fun wq hq => by go_simp; first | done | with_reducible rfl) ?_
        simp only [Act.put, List.setIfInBounds_toArray, List.set_cons_zero, List.set_cons_succ]
        refine take_atH 11 10 hN4 rfl rfl (by kernel_rfl) (by kernel_rfl) (by kernel_rfl) (fun _ _ _ h => h) rfl (fun wq hq => by go_simp; first | done | with_reducible rfl) ?_
        simp only [Act.put, List.setIfInBounds_toArray, List.set_cons_zero, List.set_cons_succ]
        refine wpAnyH_done (by kernel_rfl) ?_ _
        go_wp2
        go_meet
        exact ⟨by rw [st_append]; rfl, hN4⟩
      case rest =>
        obtain ⟨rfl, F4⟩ := hcut
        have hXs : ∃ H, st [eaA d (c == b), putN k p s r] = H := ⟨_, rfl⟩
        obtain ⟨H, hH⟩ := hXs
        have hH2 : H.size = 2 := by rw [← hH, st_size]; rfl
        have hS : FrB w d c k p s r i wc.drew := ⟨F4.1.drewN 1, F4.2.drew⟩
        rw [hH]
        have HH := hide hH
        clear hH F3 B3 F4
        obtain ⟨S, hS9⟩ : ∃ S, fsum (bl (cov k (H ++ i))) = S := ⟨_, rfl⟩
        have hfs : S ≤ 255 := by have := fsum_lt (bl (cov k (H ++ i))); omega
        have HS := hide hS9
        have hc1 : ¬ 9223372036854775807 < H.size + i.size := by omega
        have hc2 : ¬ 9223372036854775807 < H.size + i.size + (st [S]).size := by rw [st_size, List.length_singleton]; omega
        have hst : (H ++ i ++ st [S]).size ≤ 100000 := by rw [ByteArray.size_append, ByteArray.size_append, st_size, List.length_singleton]; omega
        have hl := (stuff_length (bl (H ++ i ++ st [S]))).2
        rw [bl_length] at hl
        have hc3 : ¬ 9223372036854775807 < 1 + (st (stuff (bl (H ++ i ++ st [S])))).size := by rw [st_size]; omega
        have hc4 : ¬ 9223372036854775807 < 1 + (st (stuff (bl (H ++ i ++ st [S])))).size + 1 := by rw [st_size]; omega
        clear hl
        have HH2 := hide hH2
        clear hH2
        go_upto_region 7 with (fail)
        refine wp_region_held (S := FrB w d c k p s r i) (by kernel_rfl) ?_
        change wpAnyH _ _ _ _ _ _ _ _ (World.drew _)
        refine take_atH 0 43 hS rfl rfl (by kernel_rfl) (by kernel_rfl) (by kernel_rfl) (fun _ _ _ h => h) rfl (fun wq hq => by go_simp; first | done | with_reducible rfl) ?_
        simp only [Act.put, List.setIfInBounds_toArray, List.set_cons_zero, List.set_cons_succ]
        refine take_atH 1 44 hS rfl rfl (by kernel_rfl) (by kernel_rfl) (by kernel_rfl) (fun _ _ _ h => h) rfl (fun wq hq => by go_simp; first | done | with_reducible rfl) ?_
        simp only [Act.put, List.setIfInBounds_toArray, List.set_cons_zero, List.set_cons_succ]
        refine take_atH 2 45 hS rfl rfl (by kernel_rfl) (by kernel_rfl) (by kernel_rfl) (fun _ _ _ h => h) rfl (fun wq hq => by obtain ⟨⟨_, q0, q1, q2, _, _, _, q6⟩, _⟩ := hq; go_simp; first | done | with_reducible rfl) ?_
        simp only [Act.put, List.setIfInBounds_toArray, List.set_cons_zero, List.set_cons_succ]
        refine take_atH 3 46 hS rfl rfl (by kernel_rfl) (by kernel_rfl) (by kernel_rfl) (fun _ _ _ h => h) rfl (fun wq hq => by go_simp; first | done | with_reducible rfl) ?_
        simp only [Act.put, List.setIfInBounds_toArray, List.set_cons_zero, List.set_cons_succ]
        refine take_atH 4 47 hS rfl rfl (by kernel_rfl) (by kernel_rfl) (by kernel_rfl) (fun _ _ _ h => h) rfl (fun wq hq => by go_simp; first | done | with_reducible rfl) ?_
        simp only [Act.put, List.setIfInBounds_toArray, List.set_cons_zero, List.set_cons_succ]
        refine take_atH 5 48 hS rfl rfl (by kernel_rfl) (by kernel_rfl) (by kernel_rfl) (fun _ _ _ h => h) rfl (fun wq hq => by obtain ⟨⟨_, q0, q1, q2, _, _, _, q6⟩, _⟩ := hq; go_simp; first | done | with_reducible rfl) ?_
        simp only [Act.put, List.setIfInBounds_toArray, List.set_cons_zero, List.set_cons_succ]
        refine take_atH 6 49 hS rfl rfl (by kernel_rfl) (by kernel_rfl) (by kernel_rfl) (fun _ _ _ h => h) rfl (fun wq hq => by go_simp; first | done | with_reducible rfl) ?_
        simp only [Act.put, List.setIfInBounds_toArray, List.set_cons_zero, List.set_cons_succ]
        refine take_atH 7 50 hS rfl rfl (by kernel_rfl) (by kernel_rfl) (by kernel_rfl) (fun _ _ _ h => h) rfl (fun wq hq => by go_simp; first | done | with_reducible rfl) ?_
        simp only [Act.put, List.setIfInBounds_toArray, List.set_cons_zero, List.set_cons_succ]
        refine take_atH 8 51 hS rfl rfl (by kernel_rfl) (by kernel_rfl) (by kernel_rfl) (fun _ _ _ h => h) rfl (fun wq hq => by obtain ⟨⟨_, q0, q1, q2, _, _, _, q6⟩, _⟩ := hq; go_simp; first | done | with_reducible rfl) ?_
        simp only [Act.put, List.setIfInBounds_toArray, List.set_cons_zero, List.set_cons_succ]
        refine lone_atH 9 rfl (by kernel_rfl) rfl (fun K hK => ?_)
        go_simp
        refine (rcheck_any _ _ _ _ HH2.out (by omega)).mono ?_; rintro e w' ⟨rfl, rfl⟩
        refine hK _ _ hS ?_; clear hK K
        refine lone_atH 10 rfl (by kernel_rfl) rfl (fun K hK => ?_)
        go_simp
        refine (one_any _ _ hfs).mono ?_; rintro e wN2 ⟨rfl, bN2⟩
        refine (fun hN2 => hK _ _ hN2 ?_) (⟨(hS).1.below bN2, below_step (hS).2 (Nat.le_refl _) bN2⟩); clear hK K
        refine take_atH 11 54 hN2 rfl rfl (by kernel_rfl) (by kernel_rfl) (by kernel_rfl) (fun _ _ _ h => h) rfl (fun wq hq => by go_simp; first | done | with_reducible rfl) ?_
        simp only [Act.put, List.setIfInBounds_toArray, List.set_cons_zero, List.set_cons_succ]
        refine lone_atH 12 rfl (by kernel_rfl) rfl (fun K hK => ?_)
        go_simp
        refine (rstuff_any _ _ hst).mono ?_; rintro e w' ⟨rfl, rfl⟩
        refine hK _ _ hN2 ?_; clear hK K
        refine take_atH 13 56 hN2 rfl rfl (by kernel_rfl) (by kernel_rfl) (by kernel_rfl) (fun _ _ _ h => h) rfl (fun wq hq => by go_simp; first | done | with_reducible rfl) ?_
        simp only [Act.put, List.setIfInBounds_toArray, List.set_cons_zero, List.set_cons_succ]
        refine take_atH 14 57 hN2 rfl rfl (by kernel_rfl) (by kernel_rfl) (by kernel_rfl) (fun _ _ _ h => h) rfl (fun wq hq => by go_simp; first | done | with_reducible rfl) ?_
        simp only [Act.put, List.setIfInBounds_toArray, List.set_cons_zero, List.set_cons_succ]
        refine take_atH 15 6 hN2 rfl rfl (by kernel_rfl) (by kernel_rfl) (by kernel_rfl) (fun _ _ _ h => h) rfl (fun wq hq => by go_simp; first | done | with_reducible rfl) ?_
        simp only [Act.put, List.setIfInBounds_toArray, List.set_cons_zero, List.set_cons_succ]
        refine take_atH 16 7 hN2 rfl rfl (by kernel_rfl) (by kernel_rfl) (by kernel_rfl) (fun _ _ _ h => h) rfl (fun wq hq => by go_simp; first | done | with_reducible rfl) ?_
        simp only [Act.put, List.setIfInBounds_toArray, List.set_cons_zero, List.set_cons_succ]
        refine wpAnyH_done (by kernel_rfl) ?_ _
        go_wp2
        go_ret2
        refine ⟨?_, hN2.2⟩
        rw [show octF d c k p s r i b = H ++ i by unfold octF; rw [HH.out], ← enc_text, HS.out]
        rfl

end Go.Proofs.YtflooblecbhcoaaDoor
