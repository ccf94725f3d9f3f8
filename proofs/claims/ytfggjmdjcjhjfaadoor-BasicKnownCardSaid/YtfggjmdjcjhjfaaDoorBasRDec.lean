/- The reference's Decode: the walk. -/
import Derived.Test.YtfggjmdjcjhjfaaDoorBasRPar
namespace Go.Proofs.YtfggjmdjcjhjfaaDoor
open Go.RowKit
set_option linter.unusedVariables false
set_option linter.unusedSimpArgs false

theorem rget_no (c : Nat) (w : World) (h1 : c ≤ 255) (h : gk c = 0) :
    Calls Tryd.prog 32 #[.int .u8 (c : Int)] w fun e w' => e = .returned (.tuple #[.int .u8 0, .bool false, .int .u8 0, .int .u8 0, .int .i64 30]) ∧ w = w' := by
  have := rget_any c w h1
  rw [getR_none h] at this
  exact this
theorem rget_yes (c : Nat) (w : World) (h1 : c ≤ 255) (h : gk c ≠ 0) :
    Calls Tryd.prog 32 #[.int .u8 (c : Int)] w fun e w' => e = .returned (.tuple #[.int .u8 (gk c : Nat), .bool (gp c), .int .u8 (gs c : Nat), .int .u8 (gr c : Nat), .int .i64 0]) ∧ w = w' := by
  have := rget_any c w h1
  unfold getR ge at this
  rw [if_neg h] at this
  exact this
/-- Where the reference's Decode stands. -/
structure RDecAt (w : World) (W : World) : Prop where
  blk : FrBlk W w.heap.size 0 false 0 false 0 0 ⟨#[]⟩
  below : Below w.heap.size w W
  lt : w.heap.size < W.heap.size
theorem RDecAt.step {w W W' : World} (h : RDecAt w W) (hb : Below W.heap.size W W') : RDecAt w W' :=
  ⟨(hb.block _ h.lt).trans h.blk, below_step h.below (Nat.le_refl _) hb, Nat.lt_of_lt_of_le h.lt hb.size⟩
theorem RDecAt.drewN {w W : World} (h : RDecAt w W) (n : Nat) : RDecAt w (W.drewN n) := ⟨h.blk, below_drewN h.below n, h.lt⟩
theorem rdecAt_new (w : World) : RDecAt w (w.alloc zfr) := ⟨World.alloc_heap_new w _, (Below.refl _ _).alloc (Nat.le_refl _) _, by simp⟩
theorem mayOk_got (D K NS NR : Nat) (C : Bool) (I : ByteArray) (hd : D ≤ 63) (hp : putOk K NS NR = true) : mayOk D C K NS NR I = carF C K I := by
  rw [mayOk_eq, hp, decide_eq_true hd]; rfl

set_option maxRecDepth 100000 in
set_option maxHeartbeats 8000000 in
theorem rdecode4_any (t : ByteArray) (b : Bool) (n1 : Int) (w : World) (ht : t.size ≤ 100000) :
    Calls Tryd.prog 14 #[.string t, .bool b, .int .i64 n1] w fun e w' => e = decT4 t b n1 ∧ Below w.heap.size w w' := by
  obtain ⟨RES, hRES⟩ : ∃ RES, decT4 t b n1 = RES := ⟨_, rfl⟩
  rw [hRES]
  have hR := hRES
  unfold decT4 at hR
  have HRES := hide hR.symm
  clear hRES hR
  have D0 := rdecAt_new w
  unfold zfr at D0
  go_enter Tryd.func14, Tryd.ntmps14
  go_wp2_with fail
  refine (rparts_any t _ ht).mono ?_
  rintro e w2 ⟨rfl, hb2⟩
  have D2 := D0.step hb2
  clear hb2 D0
  obtain ⟨c0, c1, c2, c3, c4, c5, c6, f0, f1, f2, f3, f4, f5, f6⟩ := zero_cells D2.blk
  by_cases hp : rptB t = false
  · rw [rparR_no hp]
    have HE := hide (show RES = bad 40 by
      rw [HRES.out]
      by_cases h1 : ptsB t = false
      · rw [if_pos h1]
      · rw [if_neg h1, if_pos]
        have h1' : ptsB t = true := by simpa using h1
        unfold rptB at hp
        rw [h1', Bool.true_and, decide_eq_false_iff_not] at hp
        omega)
    clear HRES hp
    go_wp2
    exact ret_frame (frBlk_set7 D2.blk 0 false 0 false 0 0 ⟨#[]⟩) rfl rfl ⟨HE.out.symm, below_set7 D2.below (Nat.le_refl _) _ _ _ _ _ _ _⟩
  have hp' : rptB t = true := by simpa using hp
  have hpR : rparR t = .returned (.tuple #[.int .i64 (hdN t : Int), .bool true]) := by unfold rparR; rw [hp', if_pos rfl]
  rw [hpR]
  unfold rptB at hp'
  simp only [Bool.and_eq_true, decide_eq_true_eq] at hp'
  obtain ⟨hpt, hodd⟩ := hp'
  obtain ⟨h4, hn9, _, _, hsum⟩ := ptsB_parts hpt
  rw [if_neg (by rw [hpt]; simp), if_neg (by omega)] at HRES
  have hz0 : 0 < t.size := Nat.lt_of_lt_of_le (by decide) h4
  have hz2 : 1 < t.size := Nat.lt_of_lt_of_le (by decide) h4
  have hz3 : t.size - 1 < t.size := Nat.sub_lt hz0 (by decide)
  have hz1 : hdN t = 3 ∨ hdN t = 4 := by unfold hdN; rcases tkZ_or (tl t) with h | h <;> rw [h] <;> simp
  obtain ⟨HD, hHD⟩ : ∃ HD, hdN t = HD := ⟨_, rfl⟩
  obtain ⟨M, hM⟩ : ∃ M, t.size - 1 = M := ⟨_, rfl⟩
  have ha := oc_lt t 0
  have hc := oc_lt t 1
  have hch := oc_lt t (t.size - 1)
  have e0 := oc_at t 0 hz0
  have e1 := oc_at t 1 hz2
  have E2 := oc_at t (t.size - 1) hz3
  rw [hHD, hM] at HRES
  rw [hHD] at hz1 hsum ⊢
  have hm1 : HD ≤ M := by omega
  have hOV : t.extract 0 HD ++ t.extract HD M = t.extract 0 M := by
    rw [ByteArray.extract_append_extract, Nat.min_eq_left (Nat.zero_le _), Nat.max_eq_right hm1]
  obtain ⟨H, hH⟩ : ∃ H, t.extract 0 HD = H := ⟨_, rfl⟩
  obtain ⟨I, hI⟩ : ∃ I, t.extract HD M = I := ⟨_, rfl⟩
  have hIs : I.size ≤ 100000 := by rw [← hI, ByteArray.size_extract]; omega
  rw [hH, hI] at hOV HRES
  have hgot : gk (oc t 1) ≠ 0 → putOk (gk (oc t 1)) (gs (oc t 1)) (gr (oc t 1)) = true := fun h => (put_of_get hc h).1
  rw [hM] at hch
  have E2' : ∀ (h : M < t.size), t[M].toNat = oc t M := by intro h; subst hM; exact E2
  have hM1 : M < t.size := by omega
  have EZ := E2' hM1
  have hw : IntKind.i64.wrap ((t.size : Int) - 1) = (M : Int) := by rw [IntWalk.i64_in _ (by omega)]; omega
  have hl1 : (HD : Int) ≤ (M : Int) := by omega
  have hl2 : M ≤ t.size := by omega
  have hl3 : (M : Int) ≤ (t.size : Int) := by omega
  have hl4 : (HD : Int) ≤ (t.size : Int) := by omega
  have hl5 : HD ≤ t.size := by omega
  have HI := hide hI
  have HH := hide hH
  have HOV := hide hOV
  generalize oc t M = CH at *
  generalize oc t 0 = A at *
  generalize oc t 1 = C at *
  clear E2 E2' hM hI hH hpR hp hpt hHD hOV hn9 hsum
  by_cases hg : gk C = 0
  · have HE := hide (show RES = bad 30 by rw [HRES.out, if_pos hg])
    have HG := hide hg
    clear hg HRES hgot
    go_wp2_with fail
    refine (rget_no C _ hc HG.out).mono ?_
    rintro e w4 ⟨rfl, rfl⟩
    go_wp2
    exact ret_frame (frBlk_set7 D2.blk 0 false 0 false 0 0 ⟨#[]⟩) rfl rfl ⟨HE.out.symm, below_set7 D2.below (Nat.le_refl _) _ _ _ _ _ _ _⟩
  rw [if_neg hg] at HRES
  have hk5 := gk_le C
  have hs5 := gs_le C
  have hr5 := gr_le C hc
  have HG := hide hg
  have hpo := hgot hg
  clear hgot
  go_wp2_with fail
  refine (rget_yes C _ hc HG.out).mono ?_
  rintro e w4 ⟨rfl, rfl⟩
  clear hg HG
  generalize gk C = K at *
  generalize gs C = NS at *
  generalize gr C = NR at *
  generalize gp C = PF at *
  have HR := hide (show esR A = .returned (.tuple #[.int .u8 ((A / 4 : Nat) : Int), .bool (decide (A / 2 % 2 = 1)), .bool true]) by unfold esR; rw [if_neg (by omega)])
  generalize decide (A / 2 % 2 = 1) = BT at *
  have hd4 : A / 4 ≤ 63 := by omega
  clear hodd
  generalize A / 4 = D at *
  go_wp2_with fail
  refine (rsplit_addr A _ ha).mono ?_
  rintro e w4 ⟨rfl, rfl⟩
  rw [HR.out]
  clear HR e0 e1
  go_upto_region 10 with (fail)
  rw [HI.out]
  have hMO := mayOk_got D K NS NR (BT == b) I hd4 hpo
  generalize hCM : (BT == b) = CM at *
  have D4 : RDecAt w (w2.alloc (.cells #[.int .u8 (D : Int), .bool CM, .int .u8 (K : Int), .bool PF, .int .u8 (NS : Int), .int .u8 (NR : Int), .string I] 23)) := D2.step ((Below.refl _ _).alloc (Nat.le_refl _) _)
  have F4 : FrBlk (w2.alloc (.cells #[.int .u8 (D : Int), .bool CM, .int .u8 (K : Int), .bool PF, .int .u8 (NS : Int), .int .u8 (NR : Int), .string I] 23)) w2.heap.size D CM K PF NS NR I := World.alloc_heap_new w2 _
  have hlt4 : w2.heap.size < (w2.alloc (.cells #[.int .u8 (D : Int), .bool CM, .int .u8 (K : Int), .bool PF, .int .u8 (NS : Int), .int .u8 (NR : Int), .string I] 23)).heap.size := by simp
  clear c0 c1 c2 c3 c4 c5 c6 f0 f1 f2 f3 f4 f5 f6
  obtain ⟨g, hg2⟩ : ∃ g, w2.heap.size = g := ⟨_, rfl⟩
  rw [hg2] at F4 hlt4 ⊢
  generalize w2.alloc (.cells #[.int .u8 (D : Int), .bool CM, .int .u8 (K : Int), .bool PF, .int .u8 (NS : Int), .int .u8 (NR : Int), .string I] 23) = w4 at *
  clear D2 hg2 hCM hpo
  have HMO := hide hMO
  clear hMO
  obtain ⟨OV, hov⟩ : ∃ OV, (if K = 5 then H else H ++ I) = OV := ⟨_, rfl⟩
  have hck : chk K H I = fsum (bl OV) := by unfold chk; rw [hov]
  have hovs : OV.size ≤ maxLen := by
    unfold maxLen
    rw [← hov]
    split
    · rw [← HH.out, ByteArray.size_extract]; omega
    · rw [HOV.out, ByteArray.size_extract]; omega
  rw [hck] at HRES
  have hfs := fsum_lt (bl OV)
  have HC9 := hide (fun W => rfsum_any OV W hovs)
  clear hck hovs
  generalize fsum (bl OV) = SM at *
  rw [HOV.out] at hov
  have HV := hide hov
  clear HOV hov
  by_cases hk9 : K = 5
  all_goals
    first
      | (have hov2 := HV.out; rw [if_pos hk9, ← HH.out] at hov2; have hkb : ((K : Int) == 5) = true := by rw [beq_iff_eq]; omega)
      | (have hov2 := HV.out; rw [if_neg hk9] at hov2; have hkb : ((K : Int) == 5) = false := by rw [beq_eq_false_iff_ne]; omega)
    clear HV HH hk9
    go_upto_region 12 with (fail)
    try rw [hov2]
    clear hov2 hkb hl1 hl2 hl3 hl4 hl5 hz1 hm1
    go_quiet ((go_at_call 34; exact Calls.quiet_of_same (same_of (HC9.out _))))
    have D5 := D4.drewN nq
    have F5 : FrBlk (w4.drewN nq) g D CM K PF NS NR I := F4
    have hlt5 : g < (w4.drewN nq).heap.size := hlt4
    clear D4 F4 hlt4 HC9
    generalize w4.drewN nq = w5 at *
    obtain ⟨c0, c1, c2, c3, c4, c5, c6, f0, f1, f2, f3, f4, f5, f6⟩ := zero_cells D5.blk
    by_cases hck : SM ≠ CH
    · have HE := hide (show RES = bad 41 by rw [HRES.out, if_pos hck])
      have t1 : ((SM : Int) != (CH : Int)) = true := by rw [bne_iff_ne]; omega
      clear HRES hck
      go_wp2
      exact ret_frame (frBlk_set7 D5.blk 0 false 0 false 0 0 ⟨#[]⟩) rfl rfl ⟨HE.out.symm, below_set7 D5.below (Nat.le_refl _) _ _ _ _ _ _ _⟩
    rw [if_neg hck] at HRES
    have t1 : ((SM : Int) != (CH : Int)) = false := by rw [bne_eq_false_iff_eq]; omega
    obtain ⟨x0, x1, x2, x3, x4, x5, x6, _⟩ := zero_cells F5
    clear hck
    go_wp2_with fail
    refine (rmay4_any D K NS NR CM PF I _ (by omega) (by omega) (by omega) (by omega)).mono ?_
    rintro e w6 ⟨rfl, hb6⟩
    rw [HMO.out]
    have D6 := D5.step hb6
    have F6 : FrBlk w6 g D CM K PF NS NR I := (hb6.block _ hlt5).trans F5
    clear D5 F5 hb6 c0 c1 c2 c3 c4 c5 c6 f0 f1 f2 f3 f4 f5 f6 x0 x1 x2 x3 x4 x5 x6
    obtain ⟨c0, c1, c2, c3, c4, c5, c6, f0, f1, f2, f3, f4, f5, f6⟩ := zero_cells D6.blk
    obtain ⟨x0, x1, x2, x3, x4, x5, x6, _⟩ := zero_cells F6
    by_cases hcr : carF CM K I = false
    · have HE := hide (show RES = bad 40 by rw [HRES.out, if_pos hcr])
      rw [hcr]
      clear HRES hcr
      go_wp2
      exact ret_frame (frBlk_set7 D6.blk 0 false 0 false 0 0 ⟨#[]⟩) rfl rfl ⟨HE.out.symm, below_set7 D6.below (Nat.le_refl _) _ _ _ _ _ _ _⟩
    rw [if_neg hcr] at HRES
    have hcr' : carF CM K I = true := by simpa using hcr
    rw [hcr']
    clear hcr hcr'
    by_cases hr : room n1 < (I.size : Int)
    · have HE := hide (show RES = bad 3 by rw [HRES.out, if_pos hr])
      clear HRES
      go_wp2
      go_quiet ((go_at_call 12; exact Calls.quiet_of_same (same_of (rroom_any _ _))))
      go_wp2
      have D7 := D6.drewN nq
      exact ret_frame (frBlk_set7 D7.blk 0 false 0 false 0 0 ⟨#[]⟩) rfl rfl ⟨HE.out.symm, below_set7 D7.below (Nat.le_refl _) _ _ _ _ _ _ _⟩
    · have HE := hide (show RES = .returned (.tuple #[frV D CM K PF NS NR I, .int .i64 0]) by rw [HRES.out, if_neg hr])
      clear HRES
      go_wp2
      go_quiet ((go_at_call 12; exact Calls.quiet_of_same (same_of (rroom_any _ _))))
      go_wp2
      have D7 := D6.drewN nq
      exact ret_frame (frBlk_set7 D7.blk D CM K PF NS NR I) rfl rfl ⟨HE.out.symm, below_set7 D7.below (Nat.le_refl _) _ _ _ _ _ _ _⟩
end Go.Proofs.YtfggjmdjcjhjfaaDoor
