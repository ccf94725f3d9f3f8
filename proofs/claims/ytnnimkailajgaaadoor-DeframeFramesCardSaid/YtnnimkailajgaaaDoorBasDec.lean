/- basic.Decode: the walk. -/
import Derived.Test.YtnnimkailajgaaaDoorBasPar
import Derived.RangeFuncRecord
namespace Go.Proofs.YtnnimkailajgaaaDoor.Bs
open Go.RowKit
set_option linter.unusedVariables false
set_option linter.unusedSimpArgs false

/-- What both Decodes answer. -/
def decT4 (t : ByteArray) (b : Bool) (n1 : Int) : Ending :=
  if ptsB t = false then bad 40 else if oc t 0 % 2 = 0 then bad 40 else if gk (oc t 1) = 0 then bad 30
  else if chk (gk (oc t 1)) (t.extract 0 (hdN t)) (t.extract (hdN t) (t.size - 1)) ≠ oc t (t.size - 1) then bad 41
  else if carF (decide (oc t 0 / 2 % 2 = 1) == b) (gk (oc t 1)) (t.extract (hdN t) (t.size - 1)) = false then bad 40
  else if room n1 < ((t.extract (hdN t) (t.size - 1)).size : Int) then bad 3
  else .returned (.tuple #[frV (oc t 0 / 4) (decide (oc t 0 / 2 % 2 = 1) == b) (gk (oc t 1)) (gp (oc t 1)) (gs (oc t 1)) (gr (oc t 1)) (t.extract (hdN t) (t.size - 1)), .int .i64 0])

/-- Where Decode stands: the result's block and the zero frame's. -/
structure DecAt (w : World) (W : World) : Prop where
  blk : FrBlk W w.heap.size 0 false 0 false 0 0 ⟨#[]⟩
  zer : FrBlk W (w.heap.size + 1) 0 false 0 false 0 0 ⟨#[]⟩
  below : Below w.heap.size w W
  lt : w.heap.size + 1 < W.heap.size
theorem DecAt.step {w W W' : World} (h : DecAt w W) (hb : Below W.heap.size W W') : DecAt w W' :=
  ⟨(hb.block _ (Nat.lt_trans (Nat.lt_succ_self _) h.lt)).trans h.blk, (hb.block _ h.lt).trans h.zer, below_step h.below (Nat.le_refl _) hb, Nat.lt_of_lt_of_le h.lt hb.size⟩
theorem DecAt.drewN {w W : World} (h : DecAt w W) (n : Nat) : DecAt w (W.drewN n) := ⟨h.blk, h.zer, below_drewN h.below n, h.lt⟩
abbrev zfr : Obj := .cells #[.int .u8 0, .bool false, .int .u8 0, .bool false, .int .u8 0, .int .u8 0, .string ⟨#[]⟩] 30
theorem decAt_new (w : World) : DecAt w ((w.alloc zfr).alloc zfr) := by
  refine ⟨(Below.heap_alloc _ _ _ (by simp)).trans (World.alloc_heap_new w _), ?_, ((Below.refl _ _).alloc (Nat.le_refl _) _).alloc (by simp) _, by simp⟩
  have := World.alloc_heap_new (w.alloc zfr) zfr
  rw [World.size_alloc] at this
  exact this
theorem ptsB_parts {t : ByteArray} (h : ptsB t = true) : 4 ≤ t.size ∧ oc t 0 ≠ 249 ∧ tkOk (tl t) = true ∧ (lenL (tkN (tl t))).length = tkZ (tl t) ∧ hdN t + tkN (tl t) + 1 = t.size := by
  unfold ptsB at h
  simpa using h

set_option maxRecDepth 100000 in
set_option maxHeartbeats 8000000 in
theorem bdecode_any (t : ByteArray) (b : Bool) (n1 : Int) (w : World) (hh : Octs w) (hf : Half w) (ht : t.size ≤ 100000) :
    Calls Tryd.prog 39 #[.string t, .bool b, .int .i64 n1] w fun e w' => e = decT4 t b n1 ∧ Below w.heap.size w w' := by
  have HO := hide (fun W (hb : Below w.heap.size w W) => hh.below hb)
  have HF := hide (fun W (hb : Below w.heap.size w W) => hf.below hb)
  clear hh hf
  obtain ⟨RES, hRES⟩ : ∃ RES, decT4 t b n1 = RES := ⟨_, rfl⟩
  rw [hRES]
  have hR := hRES
  unfold decT4 at hR
  have HRES := hide hR.symm
  clear hRES hR
  have D0 := decAt_new w
  unfold zfr at D0
  go_enter Tryd.func39, Tryd.ntmps39
  go_wp2_with fail
  refine (parts_any t _ ht).mono ?_
  rintro e w2 ⟨rfl, hb2⟩
  have D2 := D0.step hb2
  clear hb2 D0
  by_cases hp : ptsB t = false
  · rw [parR_no hp]
    have HE := hide (show RES = bad 40 by rw [HRES.out, if_pos hp])
    obtain ⟨c0, c1, c2, c3, c4, c5, c6, f0, f1, f2, f3, f4, f5, f6⟩ := zero_cells D2.blk
    obtain ⟨z0, z1, z2, z3, z4, z5, z6, y0, y1, y2, y3, y4, y5, y6⟩ := zero_cells D2.zer
    clear HRES hp
    go_wp2
    exact ret_frame (frBlk_set7 D2.blk 0 false 0 false 0 0 ⟨#[]⟩) rfl rfl ⟨HE.out.symm, below_set7 D2.below (Nat.le_refl _) _ _ _ _ _ _ _⟩
  rw [if_neg hp] at HRES
  have hp' : ptsB t = true := by simpa using hp
  have hpR : parR t = .returned (.tuple #[.string (t.extract 0 (hdN t)), .string (t.extract (hdN t) (t.size - 1)), .bool true]) := by unfold parR; rw [hp', if_pos rfl]
  rw [hpR]
  have h4 := (ptsB_parts hp').1
  obtain ⟨H, hH⟩ : ∃ H, t.extract 0 (hdN t) = H := ⟨_, rfl⟩
  obtain ⟨I, hI⟩ : ∃ I, t.extract (hdN t) (t.size - 1) = I := ⟨_, rfl⟩
  have hHs : H.size ≤ 100000 := by rw [← hH, ByteArray.size_extract]; omega
  have hIs : I.size ≤ 100000 := by rw [← hI, ByteArray.size_extract]; omega
  rw [hH, hI] at HRES ⊢
  have ha := oc_lt t 0
  have hc := oc_lt t 1
  have hch := oc_lt t (t.size - 1)
  have e0 := oc_at t 0 (by omega)
  have e1 := oc_at t 1 (by omega)
  have E2 := oc_at t (t.size - 1) (by omega)
  generalize oc t (t.size - 1) = CH at *
  generalize oc t 0 = A at *
  generalize oc t 1 = C at *
  obtain ⟨M, hM⟩ : ∃ M, t.size - 1 = M := ⟨_, rfl⟩
  have hM1 : M < t.size := by omega
  have hw : IntKind.i64.wrap ((t.size : Int) - 1) = (M : Int) := by rw [IntWalk.i64_in _ (by omega)]; omega
  have E2' : ∀ (h : M < t.size), t[M].toNat = CH := by intro h; subst hM; exact E2
  have EZ := E2' hM1
  have hz0 : 0 < t.size := by omega
  have hz1 : 1 < t.size := by omega
  clear E2 E2' hM hI hH hpR hp hp'
  by_cases hev : A % 2 = 0
  · have HE := hide (show RES = bad 40 by rw [HRES.out, if_pos hev])
    have HR := hide (show esR A = .returned (.tuple #[.int .u8 0, .bool false, .bool false]) by unfold esR; rw [if_pos hev])
    obtain ⟨c0, c1, c2, c3, c4, c5, c6, f0, f1, f2, f3, f4, f5, f6⟩ := zero_cells D2.blk
    obtain ⟨z0, z1, z2, z3, z4, z5, z6, y0, y1, y2, y3, y4, y5, y6⟩ := zero_cells D2.zer
    clear hev HRES
    go_wp2_with fail
    refine (split_addr A _ ha).mono ?_
    rintro e w4 ⟨rfl, rfl⟩
    rw [HR.out]
    go_wp2
    exact ret_frame (frBlk_set7 D2.blk 0 false 0 false 0 0 ⟨#[]⟩) rfl rfl ⟨HE.out.symm, below_set7 D2.below (Nat.le_refl _) _ _ _ _ _ _ _⟩
  have HR := hide (show esR A = .returned (.tuple #[.int .u8 ((A / 4 : Nat) : Int), .bool (decide (A / 2 % 2 = 1)), .bool true]) by unfold esR; rw [if_neg hev])
  rw [if_neg hev] at HRES
  clear hev
  generalize decide (A / 2 % 2 = 1) = BT at *
  have hd4 : A / 4 ≤ 255 := by omega
  generalize A / 4 = D at *
  go_wp2_with fail
  refine (split_addr A _ ha).mono ?_
  rintro e w4 ⟨rfl, rfl⟩
  rw [HR.out]
  clear HR
  have hoct := HO.out _ D2.below
  by_cases hg : gk C = 0
  · have HE := hide (show RES = bad 30 by rw [HRES.out, if_pos hg])
    have HG := hide hg
    obtain ⟨c0, c1, c2, c3, c4, c5, c6, f0, f1, f2, f3, f4, f5, f6⟩ := zero_cells D2.blk
    obtain ⟨z0, z1, z2, z3, z4, z5, z6, y0, y1, y2, y3, y4, y5, y6⟩ := zero_cells D2.zer
    clear hg HRES
    go_wp2_with fail
    refine (fget_no C _ hoct hc HG.out).mono ?_
    rintro e w4 ⟨rfl, rfl⟩
    go_wp2
    exact ret_frame (frBlk_set7 D2.blk 0 false 0 false 0 0 ⟨#[]⟩) rfl rfl ⟨HE.out.symm, below_set7 D2.below (Nat.le_refl _) _ _ _ _ _ _ _⟩
  rw [if_neg hg] at HRES
  have hk5 := gk_le C
  have hs5 := gs_le C
  have hr5 := gr_le C hc
  have HG := hide hg
  go_wp2_with fail
  refine (fget_yes C _ hoct hc HG.out).mono ?_
  rintro e w4 ⟨rfl, rfl⟩
  clear hg HG hoct e0 e1
  generalize gk C = K at *
  generalize gs C = NS at *
  generalize gr C = NR at *
  generalize gp C = PF at *
  go_upto_region 12 with (fail)
  generalize hCM : (BT == b) = CM at *
  have D4 : DecAt w (w2.alloc (.cells #[.int .u8 (D : Int), .bool CM, .int .u8 (K : Int), .bool PF, .int .u8 (NS : Int), .int .u8 (NR : Int), .string I] 30)) := D2.step ((Below.refl _ _).alloc (Nat.le_refl _) _)
  have F4 : FrBlk (w2.alloc (.cells #[.int .u8 (D : Int), .bool CM, .int .u8 (K : Int), .bool PF, .int .u8 (NS : Int), .int .u8 (NR : Int), .string I] 30)) w2.heap.size D CM K PF NS NR I := World.alloc_heap_new w2 _
  have hlt4 : w2.heap.size < (w2.alloc (.cells #[.int .u8 (D : Int), .bool CM, .int .u8 (K : Int), .bool PF, .int .u8 (NS : Int), .int .u8 (NR : Int), .string I] 30)).heap.size := by simp
  obtain ⟨g, hg2⟩ : ∃ g, w2.heap.size = g := ⟨_, rfl⟩
  rw [hg2] at F4 hlt4 ⊢
  generalize w2.alloc (.cells #[.int .u8 (D : Int), .bool CM, .int .u8 (K : Int), .bool PF, .int .u8 (NS : Int), .int .u8 (NR : Int), .string I] 30) = w4 at *
  clear D2 hg2 hCM
  have hch9 := chk_lt K H I
  have HC9 := hide (fun W (h : Half W) => bcheck_any K H I W h hHs hIs)
  generalize chk K H I = SM at *
  have hB4 := HF.out _ D4.below
  go_quiet ((go_at_call 37; exact Calls.quiet_of_same (same_of (HC9.out _ hB4))))
  have D5 := D4.drewN nq
  have F5 : FrBlk (w4.drewN nq) g D CM K PF NS NR I := F4
  have hlt5 : g < (w4.drewN nq).heap.size := hlt4
  clear D4 F4 hlt4 HC9 hB4
  generalize w4.drewN nq = w5 at *
  obtain ⟨c0, c1, c2, c3, c4, c5, c6, f0, f1, f2, f3, f4, f5, f6⟩ := zero_cells D5.blk
  obtain ⟨z0, z1, z2, z3, z4, z5, z6, y0, y1, y2, y3, y4, y5, y6⟩ := zero_cells D5.zer
  by_cases hck : SM ≠ CH
  · have HE := hide (show RES = bad 41 by rw [HRES.out, if_pos hck])
    have t1 : ((SM : Int) != (CH : Int)) = true := by rw [bne_iff_ne]; omega
    clear HRES hck
    go_wp2
    exact ret_frame (frBlk_set7 D5.blk 0 false 0 false 0 0 ⟨#[]⟩) rfl rfl ⟨HE.out.symm, below_set7 D5.below (Nat.le_refl _) _ _ _ _ _ _ _⟩
  rw [if_neg hck] at HRES
  have t1 : ((SM : Int) != (CH : Int)) = false := by rw [bne_eq_false_iff_eq]; omega
  obtain ⟨x0, x1, x2, x3, x4, x5, x6, _⟩ := zero_cells F5
  clear hck
  go_wp2_with fail
  refine (carries_any D K NS NR CM PF I _ (by omega)).mono ?_
  rintro e w6 ⟨rfl, hb6⟩
  have D6 := D5.step hb6
  have F6 : FrBlk w6 g D CM K PF NS NR I := (hb6.block _ hlt5).trans F5
  clear D5 F5 hb6 c0 c1 c2 c3 c4 c5 c6 f0 f1 f2 f3 f4 f5 f6 z0 z1 z2 z3 z4 z5 z6 y0 y1 y2 y3 y4 y5 y6 x0 x1 x2 x3 x4 x5 x6
  obtain ⟨c0, c1, c2, c3, c4, c5, c6, f0, f1, f2, f3, f4, f5, f6⟩ := zero_cells D6.blk
  obtain ⟨z0, z1, z2, z3, z4, z5, z6, y0, y1, y2, y3, y4, y5, y6⟩ := zero_cells D6.zer
  obtain ⟨x0, x1, x2, x3, x4, x5, x6, _⟩ := zero_cells F6
  by_cases hcr : carF CM K I = false
  · have HE := hide (show RES = bad 40 by rw [HRES.out, if_pos hcr])
    rw [hcr]
    clear HRES hcr
    go_wp2
    exact ret_frame (frBlk_set7 D6.blk 0 false 0 false 0 0 ⟨#[]⟩) rfl rfl ⟨HE.out.symm, below_set7 D6.below (Nat.le_refl _) _ _ _ _ _ _ _⟩
  rw [if_neg hcr] at HRES
  have hcr' : carF CM K I = true := by simpa using hcr
  rw [hcr']
  clear hcr hcr'
  go_wp2_with fail
  refine (broom_any _ _).mono ?_
  rintro e w7 ⟨rfl, rfl⟩
  by_cases hr : room n1 < (I.size : Int)
  · have HE := hide (show RES = bad 3 by rw [HRES.out, if_pos hr])
    clear HRES
    go_wp2
    exact ret_frame (frBlk_set7 D6.blk 0 false 0 false 0 0 ⟨#[]⟩) rfl rfl ⟨HE.out.symm, below_set7 D6.below (Nat.le_refl _) _ _ _ _ _ _ _⟩
  · have HE := hide (show RES = .returned (.tuple #[frV D CM K PF NS NR I, .int .i64 0]) by rw [HRES.out, if_neg hr])
    clear HRES
    go_wp2
    exact ret_frame (frBlk_set7 D6.blk D CM K PF NS NR I) rfl rfl ⟨HE.out.symm, below_set7 D6.below (Nat.le_refl _) _ _ _ _ _ _ _⟩
end Go.Proofs.YtnnimkailajgaaaDoor.Bs
