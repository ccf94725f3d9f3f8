/- The document's word on an end: the walk. -/
import Derived.Test.YtkikonknciffiaaHsRefR
namespace Go.Proofs.Ytkikonknciffiaa
open Go.RowKit
set_option linter.unusedVariables false
set_option linter.unusedSimpArgs false

/-- An entry boxed, and one of the history. -/
structure EJ (ge lb lo I : Nat) (sta : Int) (sda kda dla : Nat) (ena : Bool) (ida na : Int) (dta : ByteArray) (era : Int) (st : Int) (sd kd dl : Nat) (en : Bool) (id nn : Int) (dt : ByteArray) (er : Int) (W : World) : Prop where
  e : RnBlk W ge st sd kd dl en id nn dt er
  lt : lb < W.heap.size
  a : ∀ j, j < 9 → W.cell? ⟨lb, lo + (I * 9 + j), none⟩ = (enA ⟨sta, sda, kda, dla, ena, ida, na, dta, era⟩)[j]?
theorem EJ.below {ge lb lo I : Nat} {sta : Int} {sda kda dla : Nat} {ena : Bool} {ida na : Int} {dta : ByteArray} {era : Int} {st : Int} {sd kd dl : Nat} {en : Bool} {id nn : Int} {dt : ByteArray} {er : Int} {W W' : World} (h : EJ ge lb lo I sta sda kda dla ena ida na dta era st sd kd dl en id nn dt er W) (b : Below W.heap.size W W') : EJ ge lb lo I sta sda kda dla ena ida na dta era st sd kd dl en id nn dt er W' := ⟨h.e.below b, Nat.lt_of_lt_of_le h.lt b.size, fun j hj => (b.cell (p := ⟨lb, _, none⟩) h.lt).trans (h.a j hj)⟩
theorem EJ.cells {ge lb lo I : Nat} {sta : Int} {sda kda dla : Nat} {ena : Bool} {ida na : Int} {dta : ByteArray} {era : Int} {st : Int} {sd kd dl : Nat} {en : Bool} {id nn : Int} {dt : ByteArray} {er : Int} {W : World} (h : EJ ge lb lo I sta sda kda dla ena ida na dta era st sd kd dl en id nn dt er W) : W.cell? ⟨ge, 0, none⟩ = some (.int .i64 st) ∧ W.cell? ⟨ge, 1, none⟩ = some (.int .u8 (sd : Int)) ∧ W.cell? ⟨ge, 2, none⟩ = some (.int .u8 (kd : Int)) ∧ W.cell? ⟨ge, 3, none⟩ = some (.int .u8 (dl : Int)) ∧ W.cell? ⟨ge, 4, none⟩ = some (.bool en) ∧ W.cell? ⟨ge, 5, none⟩ = some (.int .i64 id) ∧ W.cell? ⟨ge, 6, none⟩ = some (.int .i64 nn) ∧ W.cell? ⟨ge, 7, none⟩ = some (.string dt) ∧ W.cell? ⟨ge, 8, none⟩ = some (.int .i64 er) ∧ W.cell? ⟨lb, lo + I * 9, none⟩ = some (.int .i64 sta) ∧ W.cell? ⟨lb, lo + I * 9 + 1, none⟩ = some (.int .u8 (sda : Int)) ∧ W.cell? ⟨lb, lo + I * 9 + 2, none⟩ = some (.int .u8 (kda : Int)) ∧ W.cell? ⟨lb, lo + I * 9 + 3, none⟩ = some (.int .u8 (dla : Int)) ∧ W.cell? ⟨lb, lo + I * 9 + 4, none⟩ = some (.bool ena) ∧ W.cell? ⟨lb, lo + I * 9 + 5, none⟩ = some (.int .i64 ida) ∧ W.cell? ⟨lb, lo + I * 9 + 6, none⟩ = some (.int .i64 na) ∧ W.cell? ⟨lb, lo + I * 9 + 7, none⟩ = some (.string dta) ∧ W.cell? ⟨lb, lo + I * 9 + 8, none⟩ = some (.int .i64 era) := by
  obtain ⟨c0, c1, c2, c3, c4, c5, c6, c7, c8⟩ := rn_cells h.e
  obtain ⟨a0, a1, a2, a3, a4, a5, a6, a7, a8⟩ := en_at h.a
  exact ⟨c0, c1, c2, c3, c4, c5, c6, c7, c8, a0, a1, a2, a3, a4, a5, a6, a7, a8⟩
/-- An empty string's facts. -/
theorem str_eq0 {a : ByteArray} (h : a = ⟨#[]⟩) : (a.toList = []) ∧ (a.toList == []) = true ∧ a.toList.isEmpty = true ∧ (decide (a.toList = [])) = true := by
  subst h
  have h0 : (⟨#[]⟩ : ByteArray).toList = [] := by rw [ByteArray.toList_eq]
  exact ⟨h0, by rw [h0]; rfl, by rw [h0]; rfl, decide_eq_true h0⟩
set_option maxRecDepth 100000 in
set_option maxHeartbeats 8000000 in
theorem rends_bad (a : Option Addr) (n ca : Nat) (z : Nat → En) (st : Int) (sd kd dl : Nat) (en : Bool) (id nn : Int) (dt : ByteArray) (er : Int) (w : World) (hE : HoldsE w a n z) (hn : n ≤ 1000) (hW : Wf z n) (hca : n ≤ ca) (hs : sd ≤ 1) (hno : 1 ≤ kd → kd ≤ 5 → dl ≠ 0 → dl ≤ 63 → ∀ I : Nat, I < n → waitsP z sd dl kd n = (I : Int) → (z I).id ≠ id) (hdt : dt.size ≤ 1000) :
    Calls Try.prog 19 #[.slice a n ca, .agg #[.int .i64 st, .int .u8 (sd : Int), .int .u8 (kd : Int), .int .u8 (dl : Int), .bool en, .int .i64 id, .int .i64 nn, .string dt, .int .i64 er]] w fun e w' => e = .returned (.bool (endsR z n ⟨st, sd, kd, dl, en, id, nn, dt, er⟩)) ∧ Below w.heap.size w w' := by
  have b1 := (Below.refl w.heap.size w).alloc (Nat.le_refl _) (.cells #[.int .i64 st, .int .u8 (sd : Int), .int .u8 (kd : Int), .int .u8 (dl : Int), .bool en, .int .i64 id, .int .i64 nn, .string dt, .int .i64 er] 36)
  have E1 : RnBlk (w.alloc (.cells #[.int .i64 st, .int .u8 (sd : Int), .int .u8 (kd : Int), .int .u8 (dl : Int), .bool en, .int .i64 id, .int .i64 nn, .string dt, .int .i64 er] 36)) w.heap.size st sd kd dl en id nn dt er := World.alloc_heap_new w _
  have hE1 := hE.below b1
  obtain ⟨c0, c1, c2, c3, c4, c5, c6, c7, c8⟩ := rn_cells E1
  clear hE
  obtain ⟨X, hX⟩ : ∃ X, endsR z n ⟨st, sd, kd, dl, en, id, nn, dt, er⟩ = X := ⟨_, rfl⟩
  rw [hX]
  have HX := hide hX
  clear hX
  go_enter Try.func19, Try.ntmps19
  go_upto_region 1 with (fail)
  generalize w.alloc (.cells #[.int .i64 st, .int .u8 (sd : Int), .int .u8 (kd : Int), .int .u8 (dl : Int), .bool en, .int .i64 id, .int .i64 nn, .string dt, .int .i64 er] 36) = w1 at *
  by_cases h1 : kd < 1
  · have h1' : (kd : Int) < 1 := by omega
    have hR : X = false := by rw [← HX.out]; unfold endsR; rw [if_pos (.inl (by simp [known]; omega))]
    go_wp2
    go_ret
    exact ⟨by first | rfl | (rw [hR]; rfl), b1⟩
  have h1' : ¬ (kd : Int) < 1 := by omega
  by_cases h5 : 5 < kd
  · have h5' : (5 : Int) < (kd : Int) := by omega
    have hR : X = false := by rw [← HX.out]; unfold endsR; rw [if_pos (.inl (by simp [known]; omega))]
    go_wp2
    go_ret
    exact ⟨by first | rfl | (rw [hR]; rfl), b1⟩
  have h5' : ¬ (5 : Int) < (kd : Int) := by omega
  have hk : ¬ known kd = false := by simp [known]; omega
  by_cases d0 : dl = 0
  · have d0' : ((dl : Int) == 0) = true := by rw [d0]; rfl
    have hR : X = false := by rw [← HX.out]; unfold endsR; rw [if_pos (.inr (.inl d0))]
    go_wp2
    go_ret
    exact ⟨by first | rfl | (rw [hR]; rfl), b1⟩
  have d0' : ((dl : Int) == 0) = false := beq_eq_false_iff_ne.2 (by omega)
  by_cases d2 : 63 < dl
  · have d2' : (63 : Int) < (dl : Int) := by omega
    have hR : X = false := by rw [← HX.out]; unfold endsR; rw [if_pos (.inr (.inr d2))]
    go_wp2
    go_ret
    exact ⟨by first | rfl | (rw [hR]; rfl), b1⟩
  have d2' : ¬ (63 : Int) < (dl : Int) := by omega
  have hc : ¬ (known kd = false ∨ dl = 0 ∨ 63 < dl) := by rintro (x | x | x); exact hk x; exact d0 x; exact d2 x
  have HQ := hide (rwaits_any a n ca z sd dl kd w1 hE1 hn)
  go_wp2_with fail
  refine HQ.out.mono ?_
  rintro e w2 ⟨rfl, b2⟩
  have bw2 := below_step b1 (Nat.le_refl _) b2
  have hE2 := hE1.below b2
  have E2 := E1.below b2
  clear b2 hE1 E1 HQ c0 c1 c2 c3 c4 c5 c6 c7 c8
  rcases waitsP_spec z sd dl kd n with hq | ⟨I, hI, hq, _⟩
  · rw [hq]
    have hR : X = false := by rw [← HX.out]; unfold endsR; rw [if_neg hc, if_pos (.inl (by dsimp only; rw [hq]; decide))]
    obtain ⟨c0, c1, c2, c3, c4, c5, c6, c7, c8⟩ := rn_cells E2
    go_upto_region 4 with (fail)
    go_quiet (fail)
    go_wp2
    go_ret
    exact ⟨by first | rfl | (rw [hR]; rfl), below_drewN bw2 nq⟩
  rw [hq]
  have hRX := HX.out.symm
  unfold endsR at hRX
  rw [if_neg hc] at hRX
  have hE2' := hE2
  obtain ⟨lb, lo, rfl, hlb, hlc⟩ := hE2' (by omega)
  have hkI : (I : Int) < (n : Int) := by omega
  obtain ⟨ez, hze⟩ : ∃ ez, z I = ez := ⟨_, rfl⟩
  have hid : (z I).id ≠ id := hno (by omega) (by omega) d0 (by omega) I hI hq
  have hai := hlc I hI
  have hsm := hW.small I hI
  dsimp only at hRX
  rw [hq, Int.toNat_natCast, hze] at hRX
  rw [hze] at hai hsm hid
  obtain ⟨sta, sda, kda, dla, ena, ida, na, dta, era⟩ := ez
  have S2 : EJ w.heap.size lb lo I sta sda kda dla ena ida na dta era st sd kd dl en id nn dt er w2 := ⟨E2, hlb, hai⟩
  clear hlc hai E2 hze
  dsimp only at hRX hsm hid
  have hid1 : (ida != id) = true := by simp [bne, hid]
  have hid2 : (ida == id) = false := beq_eq_false_iff_ne.2 hid
  have hR : X = false := by rw [hRX, if_pos (.inr hid)]
  go_upto_region 4 with (fail)
  refine wp_region_held (S := fun W => EJ w.heap.size lb lo I sta sda kda dla ena ida na dta era st sd kd dl en id nn dt er W) (by kernel_rfl) ?_
  change wpAnyH _ _ _ _ _ _ _ _ (World.drew _)
  have hS : EJ w.heap.size lb lo I sta sda kda dla ena ida na dta era st sd kd dl en id nn dt er w2.drew := ⟨S2.e, S2.lt, S2.a⟩
  have bw4 : Below w.heap.size w w2.drew := below_drewN bw2 1
  have hE4 : HoldsE w2.drew (some ⟨lb, lo, none⟩) n z := hE2
  clear S2 bw2 hE2
  generalize w2.drew = w4 at *
  refine take_atH 0 37 hS rfl rfl (by kernel_rfl) (by kernel_rfl) (by kernel_rfl) (fun _ _ _ h => h) rfl (fun wq hq => by go_simp; first | done | with_reducible rfl) ?_
  simp only [Act.put, List.setIfInBounds_toArray, List.set_cons_zero, List.set_cons_succ]
  refine take_atH 1 38 hS rfl rfl (by kernel_rfl) (by kernel_rfl) (by kernel_rfl) (fun _ _ _ h => h) rfl (fun wq hq => by go_simp; first | done | with_reducible rfl) ?_
  simp only [Act.put, List.setIfInBounds_toArray, List.set_cons_zero, List.set_cons_succ]
  refine take_atH 2 39 hS rfl rfl (by kernel_rfl) (by kernel_rfl) (by kernel_rfl) (fun _ _ _ h => h) rfl (fun wq hq => by go_simp; first | done | with_reducible rfl) ?_
  simp only [Act.put, List.setIfInBounds_toArray, List.set_cons_zero, List.set_cons_succ]
  refine take_atH 3 40 hS rfl rfl (by kernel_rfl) (by kernel_rfl) (by kernel_rfl) (fun _ _ _ h => h) rfl (fun wq hq => by go_simp; first | done | with_reducible rfl) ?_
  simp only [Act.put, List.setIfInBounds_toArray, List.set_cons_zero, List.set_cons_succ]
  refine take_atH 4 41 hS rfl rfl (by kernel_rfl) (by kernel_rfl) (by kernel_rfl) (fun _ _ _ h => h) rfl (fun wq hq => by go_simp; first | done | with_reducible rfl) ?_
  simp only [Act.put, List.setIfInBounds_toArray, List.set_cons_zero, List.set_cons_succ]
  refine take_atH 5 42 hS rfl rfl (by kernel_rfl) (by kernel_rfl) (by kernel_rfl) (fun _ _ _ h => h) rfl (fun wq hq => by go_simp; first | done | with_reducible rfl) ?_
  simp only [Act.put, List.setIfInBounds_toArray, List.set_cons_zero, List.set_cons_succ]
  refine take_atH 6 43 hS rfl rfl (by kernel_rfl) (by kernel_rfl) (by kernel_rfl) (fun _ _ _ h => h) rfl (fun wq hq => by go_simp; first | done | with_reducible rfl) ?_
  simp only [Act.put, List.setIfInBounds_toArray, List.set_cons_zero, List.set_cons_succ]
  refine take_atH 7 44 hS rfl rfl (by kernel_rfl) (by kernel_rfl) (by kernel_rfl) (fun _ _ _ h => h) rfl (fun wq hq => by obtain ⟨c0, c1, c2, c3, c4, c5, c6, c7, c8, a0, a1, a2, a3, a4, a5, a6, a7, a8⟩ := hq.cells; go_simp; first | done | with_reducible rfl) ?_
  simp only [Act.put, List.setIfInBounds_toArray, List.set_cons_zero, List.set_cons_succ]
  refine take_atH 8 45 hS rfl rfl (by kernel_rfl) (by kernel_rfl) (by kernel_rfl) (fun _ _ _ h => h) rfl (fun wq hq => by go_simp; first | done | with_reducible rfl) ?_
  simp only [Act.put, List.setIfInBounds_toArray, List.set_cons_zero, List.set_cons_succ]
  refine take_atH 9 46 hS rfl rfl (by kernel_rfl) (by kernel_rfl) (by kernel_rfl) (fun _ _ _ h => h) rfl (fun wq hq => by obtain ⟨c0, c1, c2, c3, c4, c5, c6, c7, c8, a0, a1, a2, a3, a4, a5, a6, a7, a8⟩ := hq.cells; go_simp; first | done | with_reducible rfl) ?_
  simp only [Act.put, List.setIfInBounds_toArray, List.set_cons_zero, List.set_cons_succ]
  refine take_atH 10 47 hS rfl rfl (by kernel_rfl) (by kernel_rfl) (by kernel_rfl) (fun _ _ _ h => h) rfl (fun wq hq => by go_simp; first | done | with_reducible rfl) ?_
  simp only [Act.put, List.setIfInBounds_toArray, List.set_cons_zero, List.set_cons_succ]
  refine take_atH 11 48 hS rfl rfl (by kernel_rfl) (by kernel_rfl) (by kernel_rfl) (fun _ _ _ h => h) rfl (fun wq hq => by go_simp; first | done | with_reducible rfl) ?_
  simp only [Act.put, List.setIfInBounds_toArray, List.set_cons_zero, List.set_cons_succ]
  refine wpAnyH_done (by kernel_rfl) ?_ _
  go_wp2
  go_ret
  exact ⟨by first | rfl | (rw [hR]; rfl), bw4⟩
end Go.Proofs.Ytkikonknciffiaa
