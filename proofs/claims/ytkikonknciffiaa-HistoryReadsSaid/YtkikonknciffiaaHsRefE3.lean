/- The document's word on an end: kind 3. -/
import Derived.Test.YtkikonknciffiaaHsRefE
namespace Go.Proofs.Ytkikonknciffiaa
open Go.RowKit
set_option linter.unusedVariables false
set_option linter.unusedSimpArgs false

set_option maxRecDepth 100000 in
set_option maxHeartbeats 8000000 in
theorem rends_3 (a : Option Addr) (n ca : Nat) (z : Nat → En) (st : Int) (sd kd dl : Nat) (en : Bool) (id nn : Int) (dt : ByteArray) (er : Int) (w : World) (hE : HoldsE w a n z) (hn : n ≤ 1000) (hW : Wf z n) (hca : n ≤ ca) (hs : sd ≤ 1) (h1 : ¬ kd < 1) (h5 : ¬ 5 < kd) (d0 : ¬ dl = 0) (d2 : ¬ 63 < dl) (I : Nat) (hI : I < n) (hq : waitsP z sd dl kd n = (I : Int)) (hid : (z I).id = id) (k3 : kd = 3) (hdt : dt.size ≤ 1000) :
    Calls Try.prog 19 #[.slice a n ca, .agg #[.int .i64 st, .int .u8 (sd : Int), .int .u8 (kd : Int), .int .u8 (dl : Int), .bool en, .int .i64 id, .int .i64 nn, .string dt, .int .i64 er]] w fun e w' => e = .returned (.bool (endsR z n ⟨st, sd, kd, dl, en, id, nn, dt, er⟩)) ∧ Below w.heap.size w w' := by
  have K3 := hide k3
  clear k3
  have b1 := (Below.refl w.heap.size w).alloc (Nat.le_refl _) (.cells #[.int .i64 st, .int .u8 (sd : Int), .int .u8 (kd : Int), .int .u8 (dl : Int), .bool en, .int .i64 id, .int .i64 nn, .string dt, .int .i64 er] 36)
  have E1 : RnBlk (w.alloc (.cells #[.int .i64 st, .int .u8 (sd : Int), .int .u8 (kd : Int), .int .u8 (dl : Int), .bool en, .int .i64 id, .int .i64 nn, .string dt, .int .i64 er] 36)) w.heap.size st sd kd dl en id nn dt er := World.alloc_heap_new w _
  have hE1 := hE.below b1
  obtain ⟨c0, c1, c2, c3, c4, c5, c6, c7, c8⟩ := rn_cells E1
  clear hE
  obtain ⟨X, hX⟩ : ∃ X, endsR z n ⟨st, sd, kd, dl, en, id, nn, dt, er⟩ = X := ⟨_, rfl⟩
  rw [hX]
  have HX := hide hX
  clear hX
  go_enter Try.func19, Try.ntmps19
  go_upto_region 1 with (fail)
  generalize w.alloc (.cells #[.int .i64 st, .int .u8 (sd : Int), .int .u8 (kd : Int), .int .u8 (dl : Int), .bool en, .int .i64 id, .int .i64 nn, .string dt, .int .i64 er] 36) = w1 at *
  have h1' : ¬ (kd : Int) < 1 := by omega
  have h5' : ¬ (5 : Int) < (kd : Int) := by omega
  have hk : ¬ known kd = false := by simp [known]; omega
  have d0' : ((dl : Int) == 0) = false := beq_eq_false_iff_ne.2 (by omega)
  have d2' : ¬ (63 : Int) < (dl : Int) := by omega
  have hc : ¬ (known kd = false ∨ dl = 0 ∨ 63 < dl) := by rintro (x | x | x); exact hk x; exact d0 x; exact d2 x
  have HQ := hide (rwaits_any a n ca z sd dl kd w1 hE1 hn)
  go_wp2_with fail
  refine HQ.out.mono ?_
  rintro e w2 ⟨rfl, b2⟩
  have bw2 := below_step b1 (Nat.le_refl _) b2
  have hE2 := hE1.below b2
  have E2 := E1.below b2
  clear b2 hE1 E1 HQ c0 c1 c2 c3 c4 c5 c6 c7 c8
  rw [hq]
  have hRX := HX.out.symm
  unfold endsR at hRX
  rw [if_neg hc] at hRX
  have hE2' := hE2
  obtain ⟨lb, lo, rfl, hlb, hlc⟩ := hE2' (by omega)
  have hkI : (I : Int) < (n : Int) := by omega
  obtain ⟨ez, hze⟩ : ∃ ez, z I = ez := ⟨_, rfl⟩
  have hai := hlc I hI
  have hsm := hW.small I hI
  dsimp only at hRX
  rw [hq, Int.toNat_natCast, hze] at hRX
  rw [hze] at hai hsm hid
  obtain ⟨sta, sda, kda, dla, ena, ida, na, dta, era⟩ := ez
  have hdz : (z I).data = dta := by rw [hze]
  have S2 : EJ w.heap.size lb lo I sta sda kda dla ena ida na dta era st sd kd dl en id nn dt er w2 := ⟨E2, hlb, hai⟩
  clear hlc hai E2 hze
  dsimp only at hRX hsm hid
  have hid1 : (ida != id) = false := by rw [hid]; simp
  have hid2 : (ida == id) = true := by rw [hid]; simp
  rw [if_neg (by rintro (x | x); omega; exact x hid)] at hRX
  have HID := hide hid
  clear hid
  go_upto_region 4 with (fail)
  refine wp_region_held (S := fun W => EJ w.heap.size lb lo I sta sda kda dla ena ida na dta era st sd kd dl en id nn dt er W) (by kernel_rfl) ?_
  change wpAnyH _ _ _ _ _ _ _ _ (World.drew _)
  have hS : EJ w.heap.size lb lo I sta sda kda dla ena ida na dta era st sd kd dl en id nn dt er w2.drew := ⟨S2.e, S2.lt, S2.a⟩
  have bw4 : Below w.heap.size w w2.drew := below_drewN bw2 1
  have hE4 : HoldsE w2.drew (some ⟨lb, lo, none⟩) n z := hE2
  clear S2 bw2 hE2
  generalize w2.drew = w4 at *
  refine take_atH 0 37 hS rfl rfl (by kernel_rfl) (by kernel_rfl) (by kernel_rfl) (fun _ _ _ h => h) rfl (fun wq hq => by go_simp; first | done | with_reducible rfl) ?_
  simp only [Act.put, List.setIfInBounds_toArray, List.set_cons_zero, List.set_cons_succ]
  refine take_atH 1 38 hS rfl rfl (by kernel_rfl) (by kernel_rfl) (by kernel_rfl) (fun _ _ _ h => h) rfl (fun wq hq => by go_simp; first | done | with_reducible rfl) ?_
  simp only [Act.put, List.setIfInBounds_toArray, List.set_cons_zero, List.set_cons_succ]
  refine take_atH 2 39 hS rfl rfl (by kernel_rfl) (by kernel_rfl) (by kernel_rfl) (fun _ _ _ h => h) rfl (fun wq hq => by go_simp; first | done | with_reducible rfl) ?_
  simp only [Act.put, List.setIfInBounds_toArray, List.set_cons_zero, List.set_cons_succ]
  refine take_atH 3 40 hS rfl rfl (by kernel_rfl) (by kernel_rfl) (by kernel_rfl) (fun _ _ _ h => h) rfl (fun wq hq => by go_simp; first | done | with_reducible rfl) ?_
  simp only [Act.put, List.setIfInBounds_toArray, List.set_cons_zero, List.set_cons_succ]
  refine take_atH 4 41 hS rfl rfl (by kernel_rfl) (by kernel_rfl) (by kernel_rfl) (fun _ _ _ h => h) rfl (fun wq hq => by go_simp; first | done | with_reducible rfl) ?_
  simp only [Act.put, List.setIfInBounds_toArray, List.set_cons_zero, List.set_cons_succ]
  refine take_atH 5 42 hS rfl rfl (by kernel_rfl) (by kernel_rfl) (by kernel_rfl) (fun _ _ _ h => h) rfl (fun wq hq => by go_simp; first | done | with_reducible rfl) ?_
  simp only [Act.put, List.setIfInBounds_toArray, List.set_cons_zero, List.set_cons_succ]
  refine take_atH 6 43 hS rfl rfl (by kernel_rfl) (by kernel_rfl) (by kernel_rfl) (fun _ _ _ h => h) rfl (fun wq hq => by go_simp; first | done | with_reducible rfl) ?_
  simp only [Act.put, List.setIfInBounds_toArray, List.set_cons_zero, List.set_cons_succ]
  refine take_atH 7 44 hS rfl rfl (by kernel_rfl) (by kernel_rfl) (by kernel_rfl) (fun _ _ _ h => h) rfl (fun wq hq => by obtain ⟨c0, c1, c2, c3, c4, c5, c6, c7, c8, a0, a1, a2, a3, a4, a5, a6, a7, a8⟩ := hq.cells; go_simp; first | done | with_reducible rfl) ?_
  simp only [Act.put, List.setIfInBounds_toArray, List.set_cons_zero, List.set_cons_succ]
  refine take_atH 8 45 hS rfl rfl (by kernel_rfl) (by kernel_rfl) (by kernel_rfl) (fun _ _ _ h => h) rfl (fun wq hq => by go_simp; first | done | with_reducible rfl) ?_
  simp only [Act.put, List.setIfInBounds_toArray, List.set_cons_zero, List.set_cons_succ]
  refine take_atH 9 46 hS rfl rfl (by kernel_rfl) (by kernel_rfl) (by kernel_rfl) (fun _ _ _ h => h) rfl (fun wq hq => by obtain ⟨c0, c1, c2, c3, c4, c5, c6, c7, c8, a0, a1, a2, a3, a4, a5, a6, a7, a8⟩ := hq.cells; go_simp; first | done | with_reducible rfl) ?_
  simp only [Act.put, List.setIfInBounds_toArray, List.set_cons_zero, List.set_cons_succ]
  refine take_atH 10 47 hS rfl rfl (by kernel_rfl) (by kernel_rfl) (by kernel_rfl) (fun _ _ _ h => h) rfl (fun wq hq => by go_simp; first | done | with_reducible rfl) ?_
  simp only [Act.put, List.setIfInBounds_toArray, List.set_cons_zero, List.set_cons_succ]
  refine take_atH 11 48 hS rfl rfl (by kernel_rfl) (by kernel_rfl) (by kernel_rfl) (fun _ _ _ h => h) rfl (fun wq hq => by go_simp; first | done | with_reducible rfl) ?_
  simp only [Act.put, List.setIfInBounds_toArray, List.set_cons_zero, List.set_cons_succ]
  refine wpAnyH_done (by kernel_rfl) ?_ _
  have S4 : EJ w.heap.size lb lo I sta sda kda dla ena ida na dta era st sd kd dl en id nn dt er w4 := hS
  clear hS
  obtain ⟨no, hno⟩ : ∃ no, noneE ⟨st, sd, kd, dl, en, id, nn, dt, er⟩ = no := ⟨_, rfl⟩
  rw [hno] at hRX
  have HRX := hide hRX
  clear hRX HX
  have hov := rover_any (some ⟨lb, lo, none⟩) n ca z sd dl
  have HQ6 := hide (hov w4 hE4 hn)
  obtain ⟨c0, c1, c2, c3, c4, c5, c6, c7, c8, a0, a1, a2, a3, a4, a5, a6, a7, a8⟩ :=  S4.cells
  go_wp2_with fail
  refine HQ6.out.mono ?_
  rintro e w5 ⟨rfl, b5⟩
  have bw5 := below_step bw4 (Nat.le_refl _) b5
  have hE5 := hE4.below b5
  have S5 := S4.below b5
  clear b5 hE4 S4 HQ6 hov bw4 c0 c1 c2 c3 c4 c5 c6 c7 c8 a0 a1 a2 a3 a4 a5 a6 a7 a8
  obtain ⟨ov, hov⟩ : ∃ ov, overP z sd dl n = ov := ⟨_, rfl⟩
  rw [hov] at HRX ⊢
  obtain ⟨c0, c1, c2, c3, c4, c5, c6, c7, c8, a0, a1, a2, a3, a4, a5, a6, a7, a8⟩ :=  S5.cells
  have HNO := hide hno
  clear hno
  go_upto_region 7 with (fail)
  go_cut [7] (fun s7 wx => s7 = .bool no ∧ w5 = wx)
  case first =>
    by_cases h0 : nn = 0
    · have h0' : (nn == 0) = true := by rw [h0]; rfl
      have H0 := hide h0
      clear h0
      by_cases h1 : dt = ⟨#[]⟩
      · obtain ⟨h1', h1a, h1b, h1c⟩ := str_eq0 h1
        have H1 := hide h1
        clear h1
        go_wp2
        go_meet
        exact ⟨by rw [← HNO.out]; simp [noneE, H0.out, H1.out], rfl⟩
      · obtain ⟨h1', h1a, h1b, h1c⟩ := str_ne h1
        go_wp2
        go_meet
        exact ⟨by rw [← HNO.out]; simp [noneE, h1], rfl⟩
    · have h0' : (nn == 0) = false := beq_eq_false_iff_ne.2 h0
      go_wp2
      go_meet
      exact ⟨by rw [← HNO.out]; simp [noneE, h0], rfl⟩
  case rest =>
  obtain ⟨rfl, rfl⟩ := hcut
  have k1 : ¬ kd = 1 := by have := K3.out; omega
  have k2 : ¬ kd = 2 := by have := K3.out; omega
  have k1' : ((kd : Int) == 1) = false := beq_eq_false_iff_ne.2 (by have := K3.out; omega)
  have k2' : ((kd : Int) == 2) = false := beq_eq_false_iff_ne.2 (by have := K3.out; omega)
  have k3' : ((kd : Int) == 3) = true := by rw [K3.out]; rfl
  have hw1 : IntKind.u8.wrap (1 - (sd : Int)) = ((1 - sd : Nat) : Int) := by
    have : sd = 0 ∨ sd = 1 := by omega
    rcases this with rfl | rfl <;> rfl
  have hRX := HRX.out
  rw [if_neg k1, if_neg k2, if_pos K3.out] at hRX
  clear HRX
  obtain ⟨s1, hs1⟩ : ∃ s1, 1 - sd = s1 := ⟨_, rfl⟩
  rw [hs1] at hw1 hRX
  clear hs1
  have hlen : IntKind.i64.wrap (dta.size : Int) = (dta.size : Int) := IntWalk.i64_in _ (by omega)
  have hb0 := wroteR_size sd dl n hW
  have hb1 := takenP_ge z s1 dl n
  have hb2 := takenP_le s1 dl n hW
  have HT := hide (rtaken_any (some ⟨lb, lo, none⟩) n ca z s1 dl)
  obtain ⟨M, hYM⟩ : ∃ M : Nat, ((wroteR z sd dl n).size : Int) - (dta.size : Int) = (M : Int) := by
    refine ⟨(wrP z sd dl n).size, ?_⟩
    unfold wroteR
    rw [← K3.out, hq, if_pos (by omega), Int.toNat_natCast, ByteArray.size_append]
    rw [hdz]
    omega
  rw [hYM] at hRX
  obtain ⟨TT, hTT⟩ : ∃ TT, takenP z s1 dl n = TT := ⟨_, rfl⟩
  rw [hTT] at hRX hb1 hb2
  obtain ⟨T, D⟩ := TT
  dsimp only at hRX hb1 hb2
  have HRX := hide hRX
  have HQ7 := hide (HT.out w5 hE5 hn hW)
  clear hRX
  go_wp2_with fail
  refine HQ7.out.mono ?_
  rintro e w6 ⟨rfl, b6⟩
  rw [hTT]
  have bw6 := below_step bw5 (Nat.le_refl _) b6
  have hE6 := hE5.below b6
  have S6 := S5.below b6
  clear b6 hE5 S5 HQ7 HT bw5 c0 c1 c2 c3 c4 c5 c6 c7 c8 a0 a1 a2 a3 a4 a5 a6 a7 a8
  obtain ⟨Y, hY⟩ : ∃ Y, wroteR z sd dl n = Y := ⟨_, rfl⟩
  rw [hY] at hYM hb0
  have hyl : IntKind.i64.wrap (Y.size : Int) = (Y.size : Int) := IntWalk.i64_in _ (by omega)
  have hwm : IntKind.i64.wrap ((Y.size : Int) - (dta.size : Int)) = (M : Int) := by rw [hYM]; exact IntWalk.i64_in _ (by omega)
  have hwM : IntKind.i64.wrap (M : Int) = (M : Int) := IntWalk.i64_in _ (by omega)
  obtain ⟨c0, c1, c2, c3, c4, c5, c6, c7, c8, a0, a1, a2, a3, a4, a5, a6, a7, a8⟩ := S6.cells
  go_upto_region 16 with (fail)
  refine wp_region_held (S := fun W => EJ w.heap.size lb lo I sta sda kda dla ena ida na dta era st sd kd dl en id nn dt er W) (by kernel_rfl) ?_
  change wpAnyH _ _ _ _ _ _ _ _ (World.drew _)
  have hS : EJ w.heap.size lb lo I sta sda kda dla ena ida na dta era st sd kd dl en id nn dt er w6.drew := ⟨S6.e, S6.lt, S6.a⟩
  have bw7 : Below w.heap.size w w6.drew := below_drewN bw6 1
  have hE7 : HoldsE w6.drew (some ⟨lb, lo, none⟩) n z := hE6
  clear S6 bw6 hE6 c0 c1 c2 c3 c4 c5 c6 c7 c8 a0 a1 a2 a3 a4 a5 a6 a7 a8
  generalize w6.drew = w7 at *
  refine take_atH 0 130 hS rfl rfl (by kernel_rfl) (by kernel_rfl) (by kernel_rfl) (fun _ _ _ h => h) rfl (fun wq hq => by go_simp; first | done | with_reducible rfl) ?_
  simp only [Act.put, List.setIfInBounds_toArray, List.set_cons_zero, List.set_cons_succ]
  refine take_atH 1 131 hS rfl rfl (by kernel_rfl) (by kernel_rfl) (by kernel_rfl) (fun _ _ _ h => h) rfl (fun wq hq => by go_simp; first | done | with_reducible rfl) ?_
  simp only [Act.put, List.setIfInBounds_toArray, List.set_cons_zero, List.set_cons_succ]
  refine take_atH 2 132 hS rfl rfl (by kernel_rfl) (by kernel_rfl) (by kernel_rfl) (fun _ _ _ h => h) rfl (fun wq hq => by obtain ⟨c0, c1, c2, c3, c4, c5, c6, c7, c8, a0, a1, a2, a3, a4, a5, a6, a7, a8⟩ := hq.cells; go_simp; first | done | with_reducible rfl) ?_
  simp only [Act.put, List.setIfInBounds_toArray, List.set_cons_zero, List.set_cons_succ]
  refine take_atH 3 133 hS rfl rfl (by kernel_rfl) (by kernel_rfl) (by kernel_rfl) (fun _ _ _ h => h) rfl (fun wq hq => by go_simp; first | done | with_reducible rfl) ?_
  simp only [Act.put, List.setIfInBounds_toArray, List.set_cons_zero, List.set_cons_succ]
  refine take_atH 4 134 hS rfl rfl (by kernel_rfl) (by kernel_rfl) (by kernel_rfl) (fun _ _ _ h => h) rfl (fun wq hq => by obtain ⟨c0, c1, c2, c3, c4, c5, c6, c7, c8, a0, a1, a2, a3, a4, a5, a6, a7, a8⟩ := hq.cells; go_simp; first | done | with_reducible rfl) ?_
  simp only [Act.put, List.setIfInBounds_toArray, List.set_cons_zero, List.set_cons_succ]
  refine take_atH 7 137 hS rfl rfl (by kernel_rfl) (by kernel_rfl) (by kernel_rfl) (fun _ _ _ h => h) rfl (fun wq hq => by go_simp; first | done | with_reducible rfl) ?_
  simp only [Act.put, List.setIfInBounds_toArray, List.set_cons_zero, List.set_cons_succ]
  refine take_atH 9 139 hS rfl rfl (by kernel_rfl) (by kernel_rfl) (by kernel_rfl) (fun _ _ _ h => h) rfl (fun wq hq => by go_simp; first | done | with_reducible rfl) ?_
  simp only [Act.put, List.setIfInBounds_toArray, List.set_cons_zero, List.set_cons_succ]
  refine take_atH 10 140 hS rfl rfl (by kernel_rfl) (by kernel_rfl) (by kernel_rfl) (fun _ _ _ h => h) rfl (fun wq hq => by obtain ⟨c0, c1, c2, c3, c4, c5, c6, c7, c8, a0, a1, a2, a3, a4, a5, a6, a7, a8⟩ := hq.cells; go_simp; first | done | with_reducible rfl) ?_
  simp only [Act.put, List.setIfInBounds_toArray, List.set_cons_zero, List.set_cons_succ]
  refine take_atH 12 142 hS rfl rfl (by kernel_rfl) (by kernel_rfl) (by kernel_rfl) (fun _ _ _ h => h) rfl (fun wq hq => by go_simp; first | done | with_reducible rfl) ?_
  simp only [Act.put, List.setIfInBounds_toArray, List.set_cons_zero, List.set_cons_succ]
  refine lone_atH 5 rfl (by kernel_rfl) rfl (fun K hK => ?_)
  go_simp
  refine (rwrote_any (some ⟨lb, lo, none⟩) n ca z sd dl _ hE7 hn hW hca).mono ?_; rintro e wN1 ⟨rfl, bN1⟩
  refine (fun hN1 => hK _ _ hN1 ?_) ((hS).below bN1); clear hK K
  refine take_atH 6 136 hN1 rfl rfl (by kernel_rfl) (by kernel_rfl) (by kernel_rfl) (fun _ _ _ h => h) rfl (fun wq hq => by go_simp; first | done | with_reducible rfl) ?_
  simp only [Act.put, List.setIfInBounds_toArray, List.set_cons_zero, List.set_cons_succ]
  refine take_atH 8 138 hN1 rfl rfl (by kernel_rfl) (by kernel_rfl) (by kernel_rfl) (fun _ _ _ h => h) rfl (fun wq hq => by go_simp; first | done | with_reducible rfl) ?_
  simp only [Act.put, List.setIfInBounds_toArray, List.set_cons_zero, List.set_cons_succ]
  refine take_atH 11 141 hN1 rfl rfl (by kernel_rfl) (by kernel_rfl) (by kernel_rfl) (fun _ _ _ h => h) rfl (fun wq hq => by go_simp; first | done | with_reducible rfl) ?_
  simp only [Act.put, List.setIfInBounds_toArray, List.set_cons_zero, List.set_cons_succ]
  refine take_atH 13 143 hN1 rfl rfl (by kernel_rfl) (by kernel_rfl) (by kernel_rfl) (fun _ _ _ h => h) rfl (fun wq hq => by go_simp; first | done | with_reducible rfl) ?_
  simp only [Act.put, List.setIfInBounds_toArray, List.set_cons_zero, List.set_cons_succ]
  refine wpAnyH_done (by kernel_rfl) ?_ _
  have bw8 := below_step bw7 (Nat.le_refl _) bN1
  have S8 := hN1
  obtain ⟨c0, c1, c2, c3, c4, c5, c6, c7, c8, a0, a1, a2, a3, a4, a5, a6, a7, a8⟩ := S8.cells
  clear hN1 bN1 hS bw7 hE7
  by_cases ht : IntKind.i64.wrap ((M : Int) + nn) < T
  · have hR : X = false := by rw [HRX.out]; rw [if_pos ht]
    go_wp2
    go_ret
    exact ⟨by first | rfl | (rw [hR]; rfl), bw8⟩
  have HT := hide ht
  have hRX := HRX.out
  rw [if_neg ht] at hRX
  have ht' : decide (IntKind.i64.wrap ((M : Int) + nn) < T) = false := decide_eq_false ht
  clear HRX
  by_cases h1 : dt = ⟨#[]⟩
  · obtain ⟨h1', h1a, h1b, h1c⟩ := str_eq0 h1
    rw [decide_eq_true h1, Bool.true_and] at hRX
    have H1 := hide h1
    clear h1
    go_wp2_with fail
    refine (rended_any er _).mono ?_
    rintro e w9 ⟨rfl, rfl⟩
    cases he : endedE er with
    | true =>
      have e0 : er ≠ 0 := by intro x; rw [x] at he; exact absurd he (by decide)
      have e0' : (er == 0) = false := beq_eq_false_iff_ne.2 e0
      rw [he, Bool.true_and, decide_eq_false e0, Bool.false_and, Bool.or_false] at hRX
      by_cases g0 : 0 ≤ nn
      · rw [decide_eq_true g0, Bool.true_and] at hRX
        by_cases g1 : nn ≤ (dta.size : Int)
        · rw [decide_eq_true g1] at hRX
          have hR := hRX
          go_wp2
          go_ret
          exact ⟨by first | rfl | (rw [hR]; rfl), bw8⟩
        · have hR := hRX
          go_wp2
          go_ret
          exact ⟨by first | rfl | (rw [hR]; rfl), bw8⟩
      · rw [decide_eq_false g0, Bool.false_and] at hRX
        have hR := hRX
        go_wp2
        go_ret
        exact ⟨by first | rfl | (rw [hR]; rfl), bw8⟩
    | false =>
      rw [he, Bool.false_and, Bool.false_or] at hRX
      by_cases e0 : er = 0
      · have e0' : (er == 0) = true := by rw [e0]; rfl
        rw [decide_eq_true e0, Bool.true_and] at hRX
        cases ov with
        | true =>
          have hR : X = false := hRX
          go_wp2
          go_ret
          exact ⟨by first | rfl | (rw [hR]; rfl), bw8⟩
        | false =>
          by_cases g1 : nn = (dta.size : Int)
          · have g1' : (nn == (dta.size : Int)) = true := by rw [g1]; simp
            have hR : X = true := by rw [hRX, decide_eq_true g1]; rfl
            have G1 := hide g1
            clear g1
            go_wp2
            go_ret
            exact ⟨by first | rfl | (rw [hR]; rfl), bw8⟩
          · have g1' : (nn == (dta.size : Int)) = false := beq_eq_false_iff_ne.2 g1
            have hR : X = false := by rw [hRX, decide_eq_false g1]; rfl
            go_wp2
            go_ret
            exact ⟨by first | rfl | (rw [hR]; rfl), bw8⟩
      · have e0' : (er == 0) = false := beq_eq_false_iff_ne.2 e0
        have hR : X = false := by rw [hRX, decide_eq_false e0]; rfl
        go_wp2
        go_ret
        exact ⟨by first | rfl | (rw [hR]; rfl), bw8⟩
  · obtain ⟨h1', h1a, h1b, h1c⟩ := str_ne h1
    have hR : X = false := by rw [hRX, decide_eq_false h1]; rfl
    go_wp2
    go_ret
    exact ⟨by first | rfl | (rw [hR]; rfl), bw8⟩
end Go.Proofs.Ytkikonknciffiaa
