/- The reference's Decode: the walk. -/
import Derived.Test.YtflooblecbhcoaaDoorAdvDec2
namespace Go.Proofs.YtflooblecbhcoaaDoor
open Go.RowKit
set_option linter.unusedVariables false
set_option linter.unusedSimpArgs false

theorem rget_no (c : Nat) (w : World) (h1 : c ≤ 255) (h : gk c = 0) :
    Calls Tryd.prog 34 #[.int .u8 (c : Int)] w fun e w' => e = .returned (.tuple #[.int .u8 0, .bool false, .int .u8 0, .int .u8 0, .int .i64 30]) ∧ w = w' := by
  have := rget_any c w h1
  rw [getR_none h] at this
  exact this
theorem rget_yes (c : Nat) (w : World) (h1 : c ≤ 255) (h : gk c ≠ 0) :
    Calls Tryd.prog 34 #[.int .u8 (c : Int)] w fun e w' => e = .returned (.tuple #[.int .u8 (gk c : Nat), .bool (gp c), .int .u8 (gs c : Nat), .int .u8 (gr c : Nat), .int .i64 0]) ∧ w = w' := by
  have := rget_any c w h1
  unfold getR ge at this
  rw [if_neg h] at this
  exact this
theorem rdecode_none (s : ByteArray) (b : Bool) (n1 : Int) (w : World) (hs : s.size ≤ 100000) (hu : unst (bl s) = none) :
    Calls Tryd.prog 13 #[.string s, .bool b, .int .i64 n1] w fun e w' => e = bad 40 ∧ Below w.heap.size w w' := by
  have HU := hide (unR_none hu)
  clear hu
  go_enter Tryd.func13, Tryd.ntmps13
  go_wp2_with fail
  refine (runstuff_any s _ hs).mono ?_
  rintro e w2 ⟨rfl, rfl⟩
  rw [HU.out]
  have hB : FrBlk (w.alloc (.cells #[.int .u8 0, .bool false, .int .u8 0, .bool false, .int .u8 0, .int .u8 0, .string ⟨#[]⟩] 23)) w.heap.size 0 false 0 false 0 0 ⟨#[]⟩ := World.alloc_heap_new w _
  have B0 := ((Below.refl w.heap.size w).alloc (Nat.le_refl _) (.cells #[.int .u8 0, .bool false, .int .u8 0, .bool false, .int .u8 0, .int .u8 0, .string ⟨#[]⟩] 23))
  generalize w.alloc (.cells #[.int .u8 0, .bool false, .int .u8 0, .bool false, .int .u8 0, .int .u8 0, .string ⟨#[]⟩] 23) = w2 at *
  obtain ⟨c0, c1, c2, c3, c4, c5, c6, f0, f1, f2, f3, f4, f5, f6⟩ := zero_cells hB
  go_wp2
  exact ret_frame (frBlk_set7 hB 0 false 0 false 0 0 ⟨#[]⟩) rfl rfl ⟨rfl, below_set7 B0 (Nat.le_refl _) _ _ _ _ _ _ _⟩

set_option maxRecDepth 100000 in
set_option maxHeartbeats 8000000 in
theorem rdecode_some (s : ByteArray) (l : List Nat) (b : Bool) (n1 : Int) (w : World) (hs : s.size ≤ 100000) (hu : unst (bl s) = some l) :
    Calls Tryd.prog 13 #[.string s, .bool b, .int .i64 n1] w fun e w' => e = decT (st l) b n1 ∧ Below w.heap.size w w' := by
  have HU := hide (unR_some hu)
  have hlen : (st l).size ≤ 100000 := by
    have h1 := (stuff_of (bl_bytes s) hu).1
    have h2 := (stuff_length l).1
    rw [h1, bl_length] at h2
    rw [st_size]; omega
  clear hu
  generalize st l = T at *
  have hB : FrBlk (w.alloc (.cells #[.int .u8 0, .bool false, .int .u8 0, .bool false, .int .u8 0, .int .u8 0, .string ⟨#[]⟩] 23)) w.heap.size 0 false 0 false 0 0 ⟨#[]⟩ := World.alloc_heap_new w _
  have D3 : DecAt w (w.alloc (.cells #[.int .u8 0, .bool false, .int .u8 0, .bool false, .int .u8 0, .int .u8 0, .string ⟨#[]⟩] 23)) := ⟨hB, (Below.refl w.heap.size w).alloc (Nat.le_refl _) _, by simp⟩
  clear hB
  generalize hRES : decT T b n1 = RES
  unfold decT at hRES
  go_enter Tryd.func13, Tryd.ntmps13
  have HRES := hide hRES.symm
  clear hRES
  go_wp2_with fail
  refine (runstuff_any s _ hs).mono ?_
  rintro e w2 ⟨rfl, rfl⟩
  rw [HU.out]
  generalize w.alloc (.cells #[.int .u8 0, .bool false, .int .u8 0, .bool false, .int .u8 0, .int .u8 0, .string ⟨#[]⟩] 23) = w3 at *
  obtain ⟨c0, c1, c2, c3, c4, c5, c6, f0, f1, f2, f3, f4, f5, f6⟩ := zero_cells D3.blk
  by_cases h3 : T.size < 3
  · have HE := hide (show RES = bad 40 by rw [HRES.out, if_pos h3])
    clear HRES
    go_wp2
    exact ret_frame (frBlk_set7 D3.blk 0 false 0 false 0 0 ⟨#[]⟩) rfl rfl ⟨HE.out.symm, below_set7 D3.below (Nat.le_refl _) _ _ _ _ _ _ _⟩
  rw [if_neg h3] at HRES
  have ha := oc_lt T 0
  have hc := oc_lt T 1
  have hch := oc_lt T (T.size - 1)
  have e0 := oc_at T 0 (by omega)
  have e1 := oc_at T 1 (by omega)
  have E2 := hide (fun (h : T.size - 1 < T.size) => oc_at T (T.size - 1) h)
  generalize oc T 0 = A at *
  generalize oc T 1 = C at *
  generalize oc T (T.size - 1) = CH at *
  have hT1 : (3 : Int) ≤ (T.size : Int) := by omega
  have hT2 : 2 ≤ T.size := by omega
  by_cases hev : A % 2 = 0
  · have HE := hide (show RES = bad 40 by rw [HRES.out, if_pos hev])
    have HR := hide (show esR A = .returned (.tuple #[.int .u8 0, .bool false, .bool false]) by unfold esR; rw [if_pos hev])
    clear hev HRES
    go_wp2_with fail
    refine (rsplit_addr A _ ha).mono ?_
    rintro e w4 ⟨rfl, rfl⟩
    rw [HR.out]
    go_wp2
    exact ret_frame (frBlk_set7 D3.blk 0 false 0 false 0 0 ⟨#[]⟩) rfl rfl ⟨HE.out.symm, below_set7 D3.below (Nat.le_refl _) _ _ _ _ _ _ _⟩
  have hR : esR A = .returned (.tuple #[.int .u8 ((A / 4 : Nat) : Int), .bool (decide (A / 2 % 2 = 1)), .bool true]) := by unfold esR; rw [if_neg hev]
  have HR := hide hR
  rw [if_neg hev] at HRES
  clear hR hev
  generalize decide (A / 2 % 2 = 1) = BT at *
  have hd4 : A / 4 ≤ 255 := by omega
  generalize A / 4 = D at *
  go_wp2_with fail
  refine (rsplit_addr A _ ha).mono ?_
  rintro e w4 ⟨rfl, rfl⟩
  rw [HR.out]
  clear HR
  by_cases hg : gk C = 0
  · have HE := hide (show RES = bad 30 by rw [HRES.out, if_pos hg])
    have HG := hide hg
    clear hg HRES
    go_wp2_with fail
    refine (rget_no C _ hc HG.out).mono ?_
    rintro e w4 ⟨rfl, rfl⟩
    go_wp2
    exact ret_frame (frBlk_set7 D3.blk 0 false 0 false 0 0 ⟨#[]⟩) rfl rfl ⟨HE.out.symm, below_set7 D3.below (Nat.le_refl _) _ _ _ _ _ _ _⟩
  rw [if_neg hg] at HRES
  have hk5 := gk_le C
  have hs5 := gs_le C
  have hr5 := gr_le C hc
  have HG := hide hg
  go_wp2_with fail
  refine (rget_yes C _ hc HG.out).mono ?_
  rintro e w4 ⟨rfl, rfl⟩
  clear hg HG e0 e1
  generalize gk C = K at *
  generalize gs C = NS at *
  generalize gr C = NR at *
  generalize gp C = PF at *
  obtain ⟨M, hM⟩ : ∃ M, T.size - 1 = M := ⟨_, rfl⟩
  have hOI : T.extract 0 M = T.extract 0 2 ++ T.extract 2 M := by
    rw [ByteArray.extract_append_extract]
    congr 1
    omega
  rw [hM] at HRES E2
  rw [hOI] at HRES
  have hHs : (T.extract 0 2).size = 2 := front_size T 2 (by omega)
  have hIs : (T.extract 2 M).size ≤ 100000 := by rw [ByteArray.size_extract]; omega
  have hM1 : M < T.size := by omega
  have hM2 : (M : Int) < (T.size : Int) := by omega
  have hM3 : M ≤ T.size := by omega
  have hM4 : (2 : Int) ≤ (M : Int) := by omega
  have hM5 : 2 ≤ M := by omega
  have hw : IntKind.i64.wrap ((T.size : Int) - 1) = (M : Int) := by rw [IntWalk.i64_in _ (by omega)]; omega
  have HOI := hide hOI
  have HHs := hide hHs
  clear hM hOI hHs
  go_upto_region 10 with (fail)
  go_cut [18] (fun s18 wx => s18 = .pointer (some ⟨w3.heap.size, 0, none⟩) ∧ DecAt w wx ∧ FrBlk wx w3.heap.size D (b == BT) K PF NS NR (T.extract 2 M))
  case first =>
    refine wp_region_held (S := fun _ => True) (by kernel_rfl) ?_
    change wpAnyH _ _ _ _ _ _ _ _ (World.drew _)
    refine take_atH 0 54 trivial rfl rfl (by kernel_rfl) (by kernel_rfl) (by kernel_rfl) (fun _ _ _ h => h) rfl (fun wq hq => by go_simp; first | done | with_reducible rfl) ?_
    simp only [Act.put, List.setIfInBounds_toArray, List.set_cons_zero, List.set_cons_succ]
    refine take_atH 1 55 trivial rfl rfl (by kernel_rfl) (by kernel_rfl) (by kernel_rfl) (fun _ _ _ h => h) rfl (fun wq hq => by go_simp; first | done | with_reducible rfl) ?_
    simp only [Act.put, List.setIfInBounds_toArray, List.set_cons_zero, List.set_cons_succ]
    refine take_atH 3 57 trivial rfl rfl (by kernel_rfl) (by kernel_rfl) (by kernel_rfl) (fun _ _ _ h => h) rfl (fun wq hq => by go_simp; first | done | with_reducible rfl) ?_
    simp only [Act.put, List.setIfInBounds_toArray, List.set_cons_zero, List.set_cons_succ]
    refine take_atH 5 59 trivial rfl rfl (by kernel_rfl) (by kernel_rfl) (by kernel_rfl) (fun _ _ _ h => h) rfl (fun wq hq => by go_simp; first | done | with_reducible rfl) ?_
    simp only [Act.put, List.setIfInBounds_toArray, List.set_cons_zero, List.set_cons_succ]
    refine take_atH 6 60 trivial rfl rfl (by kernel_rfl) (by kernel_rfl) (by kernel_rfl) (fun _ _ _ h => h) rfl (fun wq hq => by go_simp; first | done | with_reducible rfl) ?_
    simp only [Act.put, List.setIfInBounds_toArray, List.set_cons_zero, List.set_cons_succ]
    refine take_atH 7 61 trivial rfl rfl (by kernel_rfl) (by kernel_rfl) (by kernel_rfl) (fun _ _ _ h => h) rfl (fun wq hq => by go_simp; first | done | with_reducible rfl) ?_
    simp only [Act.put, List.setIfInBounds_toArray, List.set_cons_zero, List.set_cons_succ]
    refine take_atH 8 62 trivial rfl rfl (by kernel_rfl) (by kernel_rfl) (by kernel_rfl) (fun _ _ _ h => h) rfl (fun wq hq => by go_simp; first | done | with_reducible rfl) ?_
    simp only [Act.put, List.setIfInBounds_toArray, List.set_cons_zero, List.set_cons_succ]
    refine take_atH 9 63 trivial rfl rfl (by kernel_rfl) (by kernel_rfl) (by kernel_rfl) (fun _ _ _ h => h) rfl (fun wq hq => by go_simp; first | done | with_reducible rfl) ?_
    simp only [Act.put, List.setIfInBounds_toArray, List.set_cons_zero, List.set_cons_succ]
    refine take_atH 10 64 trivial rfl rfl (by kernel_rfl) (by kernel_rfl) (by kernel_rfl) (fun _ _ _ h => h) rfl (fun wq hq => by go_simp; first | done | with_reducible rfl) ?_
    simp only [Act.put, List.setIfInBounds_toArray, List.set_cons_zero, List.set_cons_succ]
    refine take_atH 11 65 trivial rfl rfl (by kernel_rfl) (by kernel_rfl) (by kernel_rfl) (fun _ _ _ h => h) rfl (fun wq hq => by go_simp; first | done | with_reducible rfl) ?_
    simp only [Act.put, List.setIfInBounds_toArray, List.set_cons_zero, List.set_cons_succ]
    refine take_atH 12 66 trivial rfl rfl (by kernel_rfl) (by kernel_rfl) (by kernel_rfl) (fun _ _ _ h => h) rfl (fun wq hq => by go_simp; first | done | with_reducible rfl) ?_
    simp only [Act.put, List.setIfInBounds_toArray, List.set_cons_zero, List.set_cons_succ]
    refine take_atH 13 67 trivial rfl rfl (by kernel_rfl) (by kernel_rfl) (by kernel_rfl) (fun _ _ _ h => h) rfl (fun wq hq => by go_simp; first | done | with_reducible rfl) ?_
    simp only [Act.put, List.setIfInBounds_toArray, List.set_cons_zero, List.set_cons_succ]
    refine two_atH 2 15 rfl rfl (by kernel_rfl) rfl rfl (fun K hK => ?_) (fun K hK => ?_)
    · go_simp
      refine (bit_any _ _ _).mono ?_; rintro e w' ⟨rfl, rfl⟩
      refine hK _ _ trivial ?_; clear hK K
      refine take_atH 4 58 trivial rfl rfl (by kernel_rfl) (by kernel_rfl) (by kernel_rfl) (fun _ _ _ h => h) rfl (fun wq hq => by go_simp; first | done | with_reducible rfl) ?_
      simp only [Act.put, List.setIfInBounds_toArray, List.set_cons_zero, List.set_cons_succ]
      refine take_atH 14 68 trivial rfl rfl (by kernel_rfl) (by kernel_rfl) (by kernel_rfl) (fun _ _ _ h => h) rfl (fun wq hq => by go_simp; first | done | with_reducible rfl) ?_
      simp only [Act.put, List.setIfInBounds_toArray, List.set_cons_zero, List.set_cons_succ]
      refine lone_atH 15 rfl (by kernel_rfl) rfl (fun K hK => ?_)
      go_simp
      refine hK _ _ trivial ?_; clear hK K
      refine lone_atH 16 rfl (by kernel_rfl) rfl (fun K hK => ?_)
      go_simp
      refine hK _ _ trivial ?_; clear hK K
      refine wpAnyH_done (by kernel_rfl) ?_ _
      go_wp2
      go_meet
      exact ⟨rfl, (D3.step ((Below.refl _ _).alloc (Nat.le_refl _) _)).drewN 1, World.alloc_heap_new w3 _⟩
    · go_simp
      refine hK _ _ trivial ?_; clear hK K
      refine lone_atH 2 rfl (by kernel_rfl) rfl (fun K hK => ?_)
      go_simp
      refine (bit_any _ _ _).mono ?_; rintro e w' ⟨rfl, rfl⟩
      refine hK _ _ trivial ?_; clear hK K
      refine take_atH 4 58 trivial rfl rfl (by kernel_rfl) (by kernel_rfl) (by kernel_rfl) (fun _ _ _ h => h) rfl (fun wq hq => by go_simp; first | done | with_reducible rfl) ?_
      simp only [Act.put, List.setIfInBounds_toArray, List.set_cons_zero, List.set_cons_succ]
      refine take_atH 14 68 trivial rfl rfl (by kernel_rfl) (by kernel_rfl) (by kernel_rfl) (fun _ _ _ h => h) rfl (fun wq hq => by go_simp; first | done | with_reducible rfl) ?_
      simp only [Act.put, List.setIfInBounds_toArray, List.set_cons_zero, List.set_cons_succ]
      refine lone_atH 16 rfl (by kernel_rfl) rfl (fun K hK => ?_)
      go_simp
      refine hK _ _ trivial ?_; clear hK K
      refine wpAnyH_done (by kernel_rfl) ?_ _
      go_wp2
      go_meet
      exact ⟨rfl, (D3.step ((Below.refl _ _).alloc (Nat.le_refl _) _)).drewN 1, World.alloc_heap_new w3 _⟩
  case rest =>
  obtain ⟨rfl, D4, F4⟩ := hcut
  rw [show (BT == b) = (b == BT) by cases BT <;> cases b <;> rfl] at HRES
  generalize (b == BT) = CM at *
  have hI9 : (T.extract 2 M).size ≤ 1000000 := by omega
  have hck := fun W => rcheck_any K (T.extract 0 2) (T.extract 2 M) W HHs.out hI9
  have hfs := fsum_lt (bl (cov K (T.extract 0 2 ++ T.extract 2 M)))
  generalize fsum (bl (cov K (T.extract 0 2 ++ T.extract 2 M))) = SM at *
  have HC := hide hck
  have e2 := E2.out hM1
  obtain ⟨x0, x1, x2, x3, x4, x5, x6, _⟩ := zero_cells F4
  generalize T.extract 2 M = I at *
  clear hck c0 c1 c2 c3 c4 c5 c6 f0 f1 f2 f3 f4 f5 f6
  go_upto_region 11 with (fail)
  go_quiet ((go_at_call 30; exact Calls.quiet_of_same (same_of (HC.out _))))

  have D5 := D4.drewN nq
  have F5 : FrBlk (wc.drewN nq) w3.heap.size D CM K PF NS NR I := F4
  clear D4 F4 x0 x1 x2 x3 x4 x5 x6 e2 HC
  generalize wc.drewN nq = w5 at *
  obtain ⟨c0, c1, c2, c3, c4, c5, c6, f0, f1, f2, f3, f4, f5, f6⟩ := zero_cells D5.blk
  by_cases hck : SM ≠ CH
  · have HE := hide (show RES = bad 41 by rw [HRES.out, if_pos hck])
    have t1 : ((SM : Int) != (CH : Int)) = true := by rw [bne_iff_ne]; omega
    clear HRES hck
    go_wp2
    exact ret_frame (frBlk_set7 D5.blk 0 false 0 false 0 0 ⟨#[]⟩) rfl rfl ⟨HE.out.symm, below_set7 D5.below (Nat.le_refl _) _ _ _ _ _ _ _⟩
  rw [if_neg hck] at HRES
  have t1 : ((SM : Int) != (CH : Int)) = false := by rw [bne_eq_false_iff_eq]; omega
  have hlt5 := D5.lt
  obtain ⟨x0, x1, x2, x3, x4, x5, x6, _⟩ := zero_cells F5
  clear hck c0 c1 c2 c3 c4 c5 c6 f0 f1 f2 f3 f4 f5 f6
  go_wp2_with fail
  refine (rmay5_any D K NS NR CM PF I _ hd4 (by omega) (by omega) (by omega)).mono ?_
  rintro e w6 ⟨rfl, hb6⟩
  have D6 := D5.step hb6
  have F6 : FrBlk w6 w3.heap.size D CM K PF NS NR I := (hb6.block _ (Array.getElem?_eq_some_iff.1 F5).1).trans F5
  clear D5 F5 x0 x1 x2 x3 x4 x5 x6 hb6
  generalize mayOk D CM K NS NR I = MO at *
  obtain ⟨c0, c1, c2, c3, c4, c5, c6, f0, f1, f2, f3, f4, f5, f6⟩ := zero_cells D6.blk
  cases MO with
  | false =>
    have HE := hide (show RES = bad 40 by rw [HRES.out, if_pos rfl])
    clear HRES
    go_wp2
    exact ret_frame (frBlk_set7 D6.blk 0 false 0 false 0 0 ⟨#[]⟩) rfl rfl ⟨HE.out.symm, below_set7 D6.below (Nat.le_refl _) _ _ _ _ _ _ _⟩
  | true =>
    rw [if_neg (by simp)] at HRES
    obtain ⟨x0, x1, x2, x3, x4, x5, x6, _⟩ := zero_cells F6
    by_cases hr : room n1 < (I.size : Int)
    · have HE := hide (show RES = bad 3 by rw [HRES.out, if_pos hr])
      clear HRES
      go_wp2
      go_quiet ((go_at_call 25; exact Calls.quiet_of_same (same_of (rlimit_any _ _))))
      go_wp2
      have D7 := D6.drewN nq
      exact ret_frame (frBlk_set7 D7.blk 0 false 0 false 0 0 ⟨#[]⟩) rfl rfl ⟨HE.out.symm, below_set7 D7.below (Nat.le_refl _) _ _ _ _ _ _ _⟩
    · have HE := hide (show RES = .returned (.tuple #[frV D CM K PF NS NR I, .int .i64 0]) by rw [HRES.out, if_neg hr])
      clear HRES
      go_wp2
      go_quiet ((go_at_call 25; exact Calls.quiet_of_same (same_of (rlimit_any _ _))))
      go_wp2
      have D7 := D6.drewN nq
      exact ret_frame (frBlk_set7 D7.blk D CM K PF NS NR I) rfl rfl ⟨HE.out.symm, below_set7 D7.below (Nat.le_refl _) _ _ _ _ _ _ _⟩

end Go.Proofs.YtflooblecbhcoaaDoor
