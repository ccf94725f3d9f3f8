/- advanced.Decode: the walk, of octets that can be read. -/
import Derived.Test.YtnnimkailajgaaaDoorAdvDec
namespace Go.Proofs.YtnnimkailajgaaaDoor
open Go.RowKit
set_option linter.unusedVariables false
set_option linter.unusedSimpArgs false

theorem oc_at (t : ByteArray) (j : Nat) (h : j < t.size) : t[j].toNat = oc t j := (bl_getD t j h).symm
theorem oc_lt (t : ByteArray) (j : Nat) : oc t j ≤ 255 := by have := bytes_getD (bl_bytes t) j; unfold oc; omega
theorem oc_front (t : ByteArray) (n j : Nat) (h : j < n) (hn : n ≤ t.size) : oc (t.extract 0 n) j = oc t j := by
  unfold oc
  rw [bl_extract]
  simp only [List.drop_zero, Nat.sub_zero, List.getD, List.getElem?_take, h, if_pos]
theorem front_size (t : ByteArray) (n : Nat) (hn : n ≤ t.size) : (t.extract 0 n).size = n := by rw [ByteArray.size_extract]; omega
theorem inner_extract (t : ByteArray) (n : Nat) (h : 2 ≤ n) (hn : n ≤ t.size) : (t.extract 0 n).extract 2 n = t.extract 2 n := by
  rw [ByteArray.extract_extract]
  congr 1
  omega
theorem fget_no (c : Nat) (w : World) (hh : Octs w) (h1 : c ≤ 255) (h : gk c = 0) :
    Calls Tryd.prog 42 #[.int .u8 (c : Int)] w fun e w' => e = .returned (.tuple #[.int .u8 0, .bool false, .int .u8 0, .int .u8 0, .int .i64 30]) ∧ w = w' := by
  have := fget_any c w hh h1
  rw [getR_none h] at this
  exact this
theorem fget_yes (c : Nat) (w : World) (hh : Octs w) (h1 : c ≤ 255) (h : gk c ≠ 0) :
    Calls Tryd.prog 42 #[.int .u8 (c : Int)] w fun e w' => e = .returned (.tuple #[.int .u8 (gk c : Nat), .bool (gp c), .int .u8 (gs c : Nat), .int .u8 (gr c : Nat), .int .i64 0]) ∧ w = w' := by
  have := fget_any c w hh h1
  unfold getR ge at this
  rw [if_neg h] at this
  exact this

/-- Where Decode stands when the octets are parted. -/
structure DecAt (w : World) (W : World) : Prop where
  blk : FrBlk W w.heap.size 0 false 0 false 0 0 ⟨#[]⟩
  below : Below w.heap.size w W
  lt : w.heap.size < W.heap.size
theorem DecAt.step {w W W' : World} (h : DecAt w W) (hb : Below W.heap.size W W') : DecAt w W' := ⟨(hb.block _ h.lt).trans h.blk, below_step h.below (Nat.le_refl _) hb, Nat.lt_of_lt_of_le h.lt hb.size⟩

theorem DecAt.drewN {w W : World} (h : DecAt w W) (n : Nat) : DecAt w (W.drewN n) := ⟨h.blk, below_drewN h.below n, h.lt⟩

set_option maxRecDepth 100000 in
set_option maxHeartbeats 8000000 in
theorem decode_some (s : ByteArray) (l : List Nat) (b : Bool) (n1 : Int) (w : World) (hh : Octs w) (hf : Half w) (hs : s.size ≤ 100000) (hu : unst (bl s) = some l) :
    Calls Tryd.prog 24 #[.string s, .bool b, .int .i64 n1] w fun e w' => e = decT (st l) b n1 ∧ Below w.heap.size w w' := by
  have HU := hide (unR_some hu)
  have hlen : (st l).size ≤ 100000 := by
    have h1 := (stuff_of (bl_bytes s) hu).1
    have h2 := (stuff_length l).1
    rw [h1, bl_length] at h2
    rw [st_size]; omega
  clear hu
  generalize st l = T at *
  have HO := hide (fun W (hb : Below w.heap.size w W) => hh.below hb)
  have HF := hide (fun W (hb : Below w.heap.size w W) => hf.below hb)
  clear hh hf
  by_cases h3 : T.size < 3
  · have hR : decT T b n1 = bad 40 := by unfold decT; rw [if_pos h3]
    rw [hR]
    clear hR
    go_enter Tryd.func24, Tryd.ntmps24
    go_wp2_with fail
    refine (unstuff_any s _ hs).mono ?_
    rintro e w2 ⟨rfl, hb2⟩
    rw [HU.out]
    have D2 : DecAt w w2 := ⟨zero_blk w hb2, ((Below.refl w.heap.size w).alloc (Nat.le_refl _) _).trans (hb2.mono (by simp)), Nat.lt_of_lt_of_le (by simp) hb2.size⟩
    obtain ⟨c0, c1, c2, c3, c4, c5, c6, f0, f1, f2, f3, f4, f5, f6⟩ := zero_cells D2.blk
    clear hb2
    go_wp2
    exact ret_frame (frBlk_set7 D2.blk 0 false 0 false 0 0 ⟨#[]⟩) rfl rfl ⟨rfl, below_set7 D2.below (Nat.le_refl _) _ _ _ _ _ _ _⟩
  obtain ⟨O, hO⟩ : ∃ O, T.extract 0 (T.size - 1) = O := ⟨_, rfl⟩
  have hOs : O.size = T.size - 1 := by rw [← hO]; exact front_size T _ (by omega)
  have hO0 : oc O 0 = oc T 0 := by rw [← hO]; exact oc_front T _ 0 (by omega) (by omega)
  have hO1 : oc O 1 = oc T 1 := by rw [← hO]; exact oc_front T _ 1 (by omega) (by omega)
  have hOi : O.extract 2 O.size = T.extract 2 (T.size - 1) := by rw [hOs, ← hO]; exact inner_extract T _ (by omega) (by omega)
  have hR : decT T b n1 = if oc O 0 % 2 = 0 then bad 40 else if gk (oc O 1) = 0 then bad 30
      else if fsum (bl (cov (gk (oc O 1)) O)) ≠ oc T (T.size - 1) then bad 41
      else if mayOk (oc O 0 / 4) (decide (oc O 0 / 2 % 2 = 1) == b) (gk (oc O 1)) (gs (oc O 1)) (gr (oc O 1)) (O.extract 2 O.size) = false then bad 40
      else if room n1 < ((O.extract 2 O.size).size : Int) then bad 3
      else .returned (.tuple #[frV (oc O 0 / 4) (decide (oc O 0 / 2 % 2 = 1) == b) (gk (oc O 1)) (gp (oc O 1)) (gs (oc O 1)) (gr (oc O 1)) (O.extract 2 O.size), .int .i64 0]) := by
    unfold decT
    rw [if_neg h3, hO, hOi, hO0, hO1]
  generalize decT T b n1 = RES at *
  have HRES := hide hR
  have ha := oc_lt O 0
  have hc := oc_lt O 1
  have hch := oc_lt T (T.size - 1)
  have E0 := hide (fun (h : 0 < O.size) => oc_at O 0 h)
  have E1 := hide (fun (h : 1 < O.size) => oc_at O 1 h)
  have E2 := hide (fun (h : T.size - 1 < T.size) => oc_at T (T.size - 1) h)
  generalize oc T (T.size - 1) = CH at *
  have HOe := hide hO
  have ho2 : 2 ≤ O.size := by omega
  have hoN : O.size ≤ 100000 := by omega
  clear hR hO0 hO1 hOi hO hOs
  go_enter Tryd.func24, Tryd.ntmps24
  go_wp2_with fail
  refine (unstuff_any s _ hs).mono ?_
  rintro e w2 ⟨rfl, hb2⟩
  rw [HU.out]
  have D2 : DecAt w w2 := ⟨zero_blk w hb2, ((Below.refl w.heap.size w).alloc (Nat.le_refl _) _).trans (hb2.mono (by simp)), Nat.lt_of_lt_of_le (by simp) hb2.size⟩
  clear hb2
  have hT1 : (3 : Int) ≤ (T.size : Int) := by omega
  obtain ⟨M, hM⟩ : ∃ M, T.size - 1 = M := ⟨_, rfl⟩
  rw [hM] at HOe E2
  have hM1 : M < T.size := by omega
  have hM2 : (M : Int) < (T.size : Int) := by omega
  have hM3 : M ≤ T.size := by omega
  have hw : IntKind.i64.wrap ((T.size : Int) - 1) = (M : Int) := by rw [IntWalk.i64_in _ (by omega)]; omega
  have HOz : Hid (T.extract 0 M = O) := HOe
  clear hM HOe
  go_wp2
  go_quiet (fail)
  rw [HOz.out, E2.out hM1]
  have D3 := D2.drewN nq
  generalize w2.drewN nq = w3 at *
  have e0 := E0.out (by omega)
  have e1 := E1.out (by omega)
  clear hw D2 HOz E2 hM1 hM2 hM3 hT1 hlen h3 E0 E1
  generalize oc O 0 = A at *
  generalize oc O 1 = C at *
  by_cases hev : A % 2 = 0
  · have hE : RES = bad 40 := by rw [HRES.out, if_pos hev]
    have hR : esR A = .returned (.tuple #[.int .u8 0, .bool false, .bool false]) := by unfold esR; rw [if_pos hev]
    have HE := hide hE
    have HR := hide hR
    obtain ⟨c0, c1, c2, c3, c4, c5, c6, f0, f1, f2, f3, f4, f5, f6⟩ := zero_cells D3.blk
    clear hE hR hev HRES
    go_wp2_with fail
    refine (split_addr A _ ha).mono ?_
    rintro e w4 ⟨rfl, rfl⟩
    rw [HR.out]
    go_wp2
    exact ret_frame (frBlk_set7 D3.blk 0 false 0 false 0 0 ⟨#[]⟩) rfl rfl ⟨HE.out.symm, below_set7 D3.below (Nat.le_refl _) _ _ _ _ _ _ _⟩
  have hR : esR A = .returned (.tuple #[.int .u8 ((A / 4 : Nat) : Int), .bool (decide (A / 2 % 2 = 1)), .bool true]) := by unfold esR; rw [if_neg hev]
  have HR := hide hR
  rw [if_neg hev] at HRES
  clear hR hev
  generalize decide (A / 2 % 2 = 1) = BT at *
  have hd4 : A / 4 ≤ 255 := by omega
  generalize A / 4 = D at *
  go_wp2_with fail
  refine (split_addr A _ ha).mono ?_
  rintro e w4 ⟨rfl, rfl⟩
  rw [HR.out]
  clear HR
  have hoct := HO.out _ D3.below
  by_cases hg : gk C = 0
  · have HE := hide (show RES = bad 30 by rw [HRES.out, if_pos hg])
    have HG := hide hg
    obtain ⟨c0, c1, c2, c3, c4, c5, c6, f0, f1, f2, f3, f4, f5, f6⟩ := zero_cells D3.blk
    clear hg HRES
    go_wp2_with fail
    refine (fget_no C _ hoct hc HG.out).mono ?_
    rintro e w4 ⟨rfl, rfl⟩
    go_wp2
    exact ret_frame (frBlk_set7 D3.blk 0 false 0 false 0 0 ⟨#[]⟩) rfl rfl ⟨HE.out.symm, below_set7 D3.below (Nat.le_refl _) _ _ _ _ _ _ _⟩
  rw [if_neg hg] at HRES
  have hk5 := gk_le C
  have hs5 := gs_le C
  have hr5 := gr_le C hc
  have HG := hide hg
  go_wp2_with fail
  refine (fget_yes C _ hoct hc HG.out).mono ?_
  rintro e w4 ⟨rfl, rfl⟩
  clear hg HG hoct e0 e1
  generalize gk C = K at *
  generalize gs C = NS at *
  generalize gr C = NR at *
  generalize gp C = PF at *
  obtain ⟨I, hI⟩ : ∃ I, O.extract 2 O.size = I := ⟨_, rfl⟩
  rw [hI] at HRES
  have hIs : I.size ≤ 100000 := by rw [← hI, ByteArray.size_extract]; omega
  go_wp2_with fail
  generalize hCM : (BT == b) = CM at *
  have D4 : DecAt w (w3.alloc (.cells #[.int .u8 (D : Int), .bool CM, .int .u8 (K : Int), .bool PF, .int .u8 (NS : Int), .int .u8 (NR : Int), .string I] 30)) := D3.step ((Below.refl _ _).alloc (Nat.le_refl _) _)
  refine (may_any D K NS NR CM PF I _ (HO.out _ D4.below) hd4 (by omega) (by omega) (by omega)).mono ?_
  rintro e w5 ⟨rfl, hb5⟩
  have D5 := D4.step hb5
  have F5 : FrBlk w5 w3.heap.size D CM K PF NS NR I := (hb5.block _ (by simp)).trans (World.alloc_heap_new w3 _)
  have hFB := HF.out _ D5.below
  have hne : w.heap.size ≠ w3.heap.size := Nat.ne_of_lt D3.lt
  clear hb5 D4 D3 hCM
  generalize putV K PF NS NR = PV at *
  generalize mayOk D CM K NS NR I = MO at *
  have hcs : (cov K O).size ≤ maxLen := by unfold cov maxLen; split; rw [ByteArray.size_extract]; omega; omega
  have hfs := fsum_lt (bl (cov K O))
  obtain ⟨c0, c1, c2, c3, c4, c5, c6, f0, f1, f2, f3, f4, f5, f6⟩ := zero_cells D5.blk
  go_wp2_with fail
  refine (covered_any K O _ ho2 (by omega)).mono ?_
  rintro e w7 ⟨rfl, rfl⟩
  go_wp2_with fail
  refine (fsum_any (cov K O) _ hFB hcs).mono ?_
  rintro e w7 ⟨rfl, rfl⟩
  generalize fsum (bl (cov K O)) = SM at *
  by_cases hck : SM ≠ CH
  · have HE := hide (show RES = bad 41 by rw [HRES.out, if_pos hck])
    have t1 : ((SM : Int) != (CH : Int)) = true := by rw [bne_iff_ne]; omega
    clear HRES hck
    go_wp2
    exact ret_frame (frBlk_set7 D5.blk 0 false 0 false 0 0 ⟨#[]⟩) rfl rfl ⟨HE.out.symm, below_set7 D5.below (Nat.le_refl _) _ _ _ _ _ _ _⟩
  rw [if_neg hck] at HRES
  have t1 : ((SM : Int) != (CH : Int)) = false := by rw [bne_eq_false_iff_eq]; omega
  clear hck
  cases MO with
  | false =>
    have HE := hide (show RES = bad 40 by rw [HRES.out, if_pos rfl])
    clear HRES
    go_wp2
    exact ret_frame (frBlk_set7 D5.blk 0 false 0 false 0 0 ⟨#[]⟩) rfl rfl ⟨HE.out.symm, below_set7 D5.below (Nat.le_refl _) _ _ _ _ _ _ _⟩
  | true =>
    rw [if_neg (by simp)] at HRES
    obtain ⟨x0, x1, x2, x3, x4, x5, x6, _⟩ := zero_cells F5
    by_cases hr : room n1 < (I.size : Int)
    · have HE := hide (show RES = bad 3 by rw [HRES.out, if_pos hr])
      clear HRES
      go_wp2
      go_quiet ((go_at_call 26; exact Calls.quiet_of_same (same_of (room_any _ _))))
      go_wp2
      have D6 := D5.drewN nq
      exact ret_frame (frBlk_set7 D6.blk 0 false 0 false 0 0 ⟨#[]⟩) rfl rfl ⟨HE.out.symm, below_set7 D6.below (Nat.le_refl _) _ _ _ _ _ _ _⟩
    · have HE := hide (show RES = .returned (.tuple #[frV D CM K PF NS NR I, .int .i64 0]) by rw [HRES.out, if_neg hr])
      clear HRES
      go_wp2
      go_quiet ((go_at_call 26; exact Calls.quiet_of_same (same_of (room_any _ _))))
      go_wp2
      have D6 := D5.drewN nq
      exact ret_frame (frBlk_set7 D6.blk D CM K PF NS NR I) rfl rfl ⟨HE.out.symm, below_set7 D6.below (Nat.le_refl _) _ _ _ _ _ _ _⟩

end Go.Proofs.YtnnimkailajgaaaDoor
