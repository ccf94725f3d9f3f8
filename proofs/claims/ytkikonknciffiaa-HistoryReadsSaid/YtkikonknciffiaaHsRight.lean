/- The document's word on an entry. -/
import Derived.Test.YtkikonknciffiaaHsRefEE
namespace Go.Proofs.Ytkikonknciffiaa
open Go.RowKit
set_option linter.unusedVariables false
set_option linter.unusedSimpArgs false

set_option maxRecDepth 100000 in
set_option maxHeartbeats 8000000 in
theorem right_1 (a : Option Addr) (n ca : Nat) (z : Nat → En) (st : Int) (sd kd dl : Nat) (en : Bool) (id nn : Int) (dt : ByteArray) (er : Int) (w : World) (hE : HoldsE w a n z) (hn : n ≤ 1000) (hW : Wf z n) (hca : n ≤ ca) (hdt : dt.size ≤ 1000) (hs : 1 < sd) :
    Calls Try.prog 14 #[.slice a n ca, .agg #[.int .i64 st, .int .u8 (sd : Int), .int .u8 (kd : Int), .int .u8 (dl : Int), .bool en, .int .i64 id, .int .i64 nn, .string dt, .int .i64 er]] w fun e w' => e = .returned (.bool (rightR z n ⟨st, sd, kd, dl, en, id, nn, dt, er⟩)) ∧ Below w.heap.size w w' := by
  have b1 := (Below.refl w.heap.size w).alloc (Nat.le_refl _) (.cells #[.int .i64 st, .int .u8 (sd : Int), .int .u8 (kd : Int), .int .u8 (dl : Int), .bool en, .int .i64 id, .int .i64 nn, .string dt, .int .i64 er] 36)
  have E1 : RnBlk (w.alloc (.cells #[.int .i64 st, .int .u8 (sd : Int), .int .u8 (kd : Int), .int .u8 (dl : Int), .bool en, .int .i64 id, .int .i64 nn, .string dt, .int .i64 er] 36)) w.heap.size st sd kd dl en id nn dt er := World.alloc_heap_new w _
  have hE1 := hE.below b1
  obtain ⟨c0, c1, c2, c3, c4, c5, c6, c7, c8⟩ := rn_cells E1
  clear hE
  obtain ⟨X, hX⟩ : ∃ X, rightR z n ⟨st, sd, kd, dl, en, id, nn, dt, er⟩ = X := ⟨_, rfl⟩
  rw [hX]
  have hX := hX.symm
  unfold rightR at hX
  dsimp only at hX
  rw [if_pos (Or.inl hs)] at hX
  have HX := hide hX
  clear hX
  have hs' : (1 : Int) < (sd : Int) := by omega
  go_enter Try.func14, Try.ntmps14
  go_upto_region 1 with (fail)
  generalize w.alloc (.cells #[.int .i64 st, .int .u8 (sd : Int), .int .u8 (kd : Int), .int .u8 (dl : Int), .bool en, .int .i64 id, .int .i64 nn, .string dt, .int .i64 er] 36) = w1 at *
  refine wp_region_held (S := fun W => RnBlk W w.heap.size st sd kd dl en id nn dt er) (by kernel_rfl) ?_
  change wpAnyH _ _ _ _ _ _ _ _ (World.drew _)
  have hS : RnBlk w1.drew w.heap.size st sd kd dl en id nn dt er := E1
  have bd : Below w.heap.size w w1.drew := below_drewN b1 1
  have hEd : HoldsE w1.drew a n z := hE1
  clear b1 hE1 E1 c0 c1 c2 c3 c4 c5 c6 c7 c8
  generalize w1.drew = wd at *
  refine take_atH 0 5 hS rfl rfl (by kernel_rfl) (by kernel_rfl) (by kernel_rfl) (fun _ _ _ h => h) rfl (fun wq hq => by go_simp; first | done | with_reducible rfl) ?_
  simp only [Act.put, List.setIfInBounds_toArray, List.set_cons_zero, List.set_cons_succ]
  refine take_atH 1 6 hS rfl rfl (by kernel_rfl) (by kernel_rfl) (by kernel_rfl) (fun _ _ _ h => h) rfl (fun wq hq => by obtain ⟨c0, c1, c2, c3, c4, c5, c6, c7, c8⟩ := rn_cells hq; go_simp; first | done | with_reducible rfl) ?_
  simp only [Act.put, List.setIfInBounds_toArray, List.set_cons_zero, List.set_cons_succ]
  refine take_atH 2 7 hS rfl rfl (by kernel_rfl) (by kernel_rfl) (by kernel_rfl) (fun _ _ _ h => h) rfl (fun wq hq => by go_simp; first | done | with_reducible rfl) ?_
  simp only [Act.put, List.setIfInBounds_toArray, List.set_cons_zero, List.set_cons_succ]
  refine take_atH 3 8 hS rfl rfl (by kernel_rfl) (by kernel_rfl) (by kernel_rfl) (fun _ _ _ h => h) rfl (fun wq hq => by go_simp; first | done | with_reducible rfl) ?_
  simp only [Act.put, List.setIfInBounds_toArray, List.set_cons_zero, List.set_cons_succ]
  refine skip_atH 4 9 hS rfl rfl (by kernel_rfl) (by kernel_rfl) (by kernel_rfl) (fun _ _ _ h => h) rfl ?_
  simp only [Act.put, List.setIfInBounds_toArray, List.set_cons_zero, List.set_cons_succ]
  refine skip_atH 5 10 hS rfl rfl (by kernel_rfl) (by kernel_rfl) (by kernel_rfl) (fun _ _ _ h => h) rfl ?_
  simp only [Act.put, List.setIfInBounds_toArray, List.set_cons_zero, List.set_cons_succ]
  refine skip_atH 6 11 hS rfl rfl (by kernel_rfl) (by kernel_rfl) (by kernel_rfl) (fun _ _ _ h => h) rfl ?_
  simp only [Act.put, List.setIfInBounds_toArray, List.set_cons_zero, List.set_cons_succ]
  refine skip_atH 7 12 hS rfl rfl (by kernel_rfl) (by kernel_rfl) (by kernel_rfl) (fun _ _ _ h => h) rfl ?_
  simp only [Act.put, List.setIfInBounds_toArray, List.set_cons_zero, List.set_cons_succ]
  refine skip_atH 8 13 hS rfl rfl (by kernel_rfl) (by kernel_rfl) (by kernel_rfl) (fun _ _ _ h => h) rfl ?_
  simp only [Act.put, List.setIfInBounds_toArray, List.set_cons_zero, List.set_cons_succ]
  refine skip_atH 9 14 hS rfl rfl (by kernel_rfl) (by kernel_rfl) (by kernel_rfl) (fun _ _ _ h => h) rfl ?_
  simp only [Act.put, List.setIfInBounds_toArray, List.set_cons_zero, List.set_cons_succ]
  refine skip_atH 10 15 hS rfl rfl (by kernel_rfl) (by kernel_rfl) (by kernel_rfl) (fun _ _ _ h => h) rfl ?_
  simp only [Act.put, List.setIfInBounds_toArray, List.set_cons_zero, List.set_cons_succ]
  refine skip_atH 11 16 hS rfl rfl (by kernel_rfl) (by kernel_rfl) (by kernel_rfl) (fun _ _ _ h => h) rfl ?_
  simp only [Act.put, List.setIfInBounds_toArray, List.set_cons_zero, List.set_cons_succ]
  refine skip_atH 12 17 hS rfl rfl (by kernel_rfl) (by kernel_rfl) (by kernel_rfl) (fun _ _ _ h => h) rfl ?_
  simp only [Act.put, List.setIfInBounds_toArray, List.set_cons_zero, List.set_cons_succ]
  refine skip_atH 13 18 hS rfl rfl (by kernel_rfl) (by kernel_rfl) (by kernel_rfl) (fun _ _ _ h => h) rfl ?_
  simp only [Act.put, List.setIfInBounds_toArray, List.set_cons_zero, List.set_cons_succ]
  refine skip_atH 14 19 hS rfl rfl (by kernel_rfl) (by kernel_rfl) (by kernel_rfl) (fun _ _ _ h => h) rfl ?_
  simp only [Act.put, List.setIfInBounds_toArray, List.set_cons_zero, List.set_cons_succ]
  refine skip_atH 15 20 hS rfl rfl (by kernel_rfl) (by kernel_rfl) (by kernel_rfl) (fun _ _ _ h => h) rfl ?_
  simp only [Act.put, List.setIfInBounds_toArray, List.set_cons_zero, List.set_cons_succ]
  refine skip_atH 16 21 hS rfl rfl (by kernel_rfl) (by kernel_rfl) (by kernel_rfl) (fun _ _ _ h => h) rfl ?_
  simp only [Act.put, List.setIfInBounds_toArray, List.set_cons_zero, List.set_cons_succ]
  refine skip_atH 17 22 hS rfl rfl (by kernel_rfl) (by kernel_rfl) (by kernel_rfl) (fun _ _ _ h => h) rfl ?_
  simp only [Act.put, List.setIfInBounds_toArray, List.set_cons_zero, List.set_cons_succ]
  refine skip_atH 18 23 hS rfl rfl (by kernel_rfl) (by kernel_rfl) (by kernel_rfl) (fun _ _ _ h => h) rfl ?_
  simp only [Act.put, List.setIfInBounds_toArray, List.set_cons_zero, List.set_cons_succ]
  refine take_atH 19 24 hS rfl rfl (by kernel_rfl) (by kernel_rfl) (by kernel_rfl) (fun _ _ _ h => h) rfl (fun wq hq => by go_simp; first | done | with_reducible rfl) ?_
  simp only [Act.put, List.setIfInBounds_toArray, List.set_cons_zero, List.set_cons_succ]
  refine wpAnyH_done (by kernel_rfl) ?_ _
  obtain ⟨c0, c1, c2, c3, c4, c5, c6, c7, c8⟩ := rn_cells hS
  go_wp2
  go_ret
  exact ⟨by first | rfl | (rw [HX.out]; rfl), bd⟩

set_option maxRecDepth 100000 in
set_option maxHeartbeats 8000000 in
theorem right_2 (a : Option Addr) (n ca : Nat) (z : Nat → En) (st : Int) (sd kd dl : Nat) (en : Bool) (id nn : Int) (dt : ByteArray) (er : Int) (w : World) (hE : HoldsE w a n z) (hn : n ≤ 1000) (hW : Wf z n) (hca : n ≤ ca) (hdt : dt.size ≤ 1000) (hs : sd ≤ 1) (h0 : n = 0) :
    Calls Try.prog 14 #[.slice a n ca, .agg #[.int .i64 st, .int .u8 (sd : Int), .int .u8 (kd : Int), .int .u8 (dl : Int), .bool en, .int .i64 id, .int .i64 nn, .string dt, .int .i64 er]] w fun e w' => e = .returned (.bool (rightR z n ⟨st, sd, kd, dl, en, id, nn, dt, er⟩)) ∧ Below w.heap.size w w' := by
  have b1 := (Below.refl w.heap.size w).alloc (Nat.le_refl _) (.cells #[.int .i64 st, .int .u8 (sd : Int), .int .u8 (kd : Int), .int .u8 (dl : Int), .bool en, .int .i64 id, .int .i64 nn, .string dt, .int .i64 er] 36)
  have E1 : RnBlk (w.alloc (.cells #[.int .i64 st, .int .u8 (sd : Int), .int .u8 (kd : Int), .int .u8 (dl : Int), .bool en, .int .i64 id, .int .i64 nn, .string dt, .int .i64 er] 36)) w.heap.size st sd kd dl en id nn dt er := World.alloc_heap_new w _
  have hE1 := hE.below b1
  obtain ⟨c0, c1, c2, c3, c4, c5, c6, c7, c8⟩ := rn_cells E1
  clear hE
  obtain ⟨X, hX⟩ : ∃ X, rightR z n ⟨st, sd, kd, dl, en, id, nn, dt, er⟩ = X := ⟨_, rfl⟩
  rw [hX]
  have hX := hX.symm
  unfold rightR at hX
  dsimp only at hX
  rw [if_neg (by rintro (x | x) <;> omega)] at hX
  have HX := hide hX
  clear hX
  have hs' : ¬ (1 : Int) < (sd : Int) := by omega
  have hd' : decide ((1 : Int) < (sd : Int)) = false := decide_eq_false hs'
  have h0' : ¬ (0 : Int) < (n : Int) := by omega
  have e0' : decide ((0 : Int) < (n : Int)) = false := decide_eq_false h0'
  have e0n : decide (0 < n) = false := decide_eq_false (by omega)
  have H0 := hide h0
  clear h0
  go_enter Try.func14, Try.ntmps14
  go_upto_region 1 with (fail)
  generalize w.alloc (.cells #[.int .i64 st, .int .u8 (sd : Int), .int .u8 (kd : Int), .int .u8 (dl : Int), .bool en, .int .i64 id, .int .i64 nn, .string dt, .int .i64 er] 36) = w1 at *
  refine wp_region_held (S := fun W => RnBlk W w.heap.size st sd kd dl en id nn dt er) (by kernel_rfl) ?_
  change wpAnyH _ _ _ _ _ _ _ _ (World.drew _)
  have hS : RnBlk w1.drew w.heap.size st sd kd dl en id nn dt er := E1
  have bd : Below w.heap.size w w1.drew := below_drewN b1 1
  have hEd : HoldsE w1.drew a n z := hE1
  clear b1 hE1 E1 c0 c1 c2 c3 c4 c5 c6 c7 c8
  generalize w1.drew = wd at *
  refine take_atH 0 5 hS rfl rfl (by kernel_rfl) (by kernel_rfl) (by kernel_rfl) (fun _ _ _ h => h) rfl (fun wq hq => by go_simp; first | done | with_reducible rfl) ?_
  simp only [Act.put, List.setIfInBounds_toArray, List.set_cons_zero, List.set_cons_succ]
  refine take_atH 1 6 hS rfl rfl (by kernel_rfl) (by kernel_rfl) (by kernel_rfl) (fun _ _ _ h => h) rfl (fun wq hq => by obtain ⟨c0, c1, c2, c3, c4, c5, c6, c7, c8⟩ := rn_cells hq; go_simp; first | done | with_reducible rfl) ?_
  simp only [Act.put, List.setIfInBounds_toArray, List.set_cons_zero, List.set_cons_succ]
  refine take_atH 2 7 hS rfl rfl (by kernel_rfl) (by kernel_rfl) (by kernel_rfl) (fun _ _ _ h => h) rfl (fun wq hq => by go_simp; first | done | with_reducible rfl) ?_
  simp only [Act.put, List.setIfInBounds_toArray, List.set_cons_zero, List.set_cons_succ]
  refine take_atH 3 8 hS rfl rfl (by kernel_rfl) (by kernel_rfl) (by kernel_rfl) (fun _ _ _ h => h) rfl (fun wq hq => by go_simp; first | done | with_reducible rfl) ?_
  simp only [Act.put, List.setIfInBounds_toArray, List.set_cons_zero, List.set_cons_succ]
  refine take_atH 4 9 hS rfl rfl (by kernel_rfl) (by kernel_rfl) (by kernel_rfl) (fun _ _ _ h => h) rfl (fun wq hq => by go_simp; first | done | with_reducible rfl) ?_
  simp only [Act.put, List.setIfInBounds_toArray, List.set_cons_zero, List.set_cons_succ]
  refine take_atH 5 10 hS rfl rfl (by kernel_rfl) (by kernel_rfl) (by kernel_rfl) (fun _ _ _ h => h) rfl (fun wq hq => by go_simp; first | done | with_reducible rfl) ?_
  simp only [Act.put, List.setIfInBounds_toArray, List.set_cons_zero, List.set_cons_succ]
  refine take_atH 6 11 hS rfl rfl (by kernel_rfl) (by kernel_rfl) (by kernel_rfl) (fun _ _ _ h => h) rfl (fun wq hq => by go_simp; first | done | with_reducible rfl) ?_
  simp only [Act.put, List.setIfInBounds_toArray, List.set_cons_zero, List.set_cons_succ]
  refine take_atH 7 12 hS rfl rfl (by kernel_rfl) (by kernel_rfl) (by kernel_rfl) (fun _ _ _ h => h) rfl (fun wq hq => by go_simp; first | done | with_reducible rfl) ?_
  simp only [Act.put, List.setIfInBounds_toArray, List.set_cons_zero, List.set_cons_succ]
  refine skip_atH 8 13 hS rfl rfl (by kernel_rfl) (by kernel_rfl) (by kernel_rfl) (fun _ _ _ h => h) rfl ?_
  simp only [Act.put, List.setIfInBounds_toArray, List.set_cons_zero, List.set_cons_succ]
  refine skip_atH 9 14 hS rfl rfl (by kernel_rfl) (by kernel_rfl) (by kernel_rfl) (fun _ _ _ h => h) rfl ?_
  simp only [Act.put, List.setIfInBounds_toArray, List.set_cons_zero, List.set_cons_succ]
  refine skip_atH 10 15 hS rfl rfl (by kernel_rfl) (by kernel_rfl) (by kernel_rfl) (fun _ _ _ h => h) rfl ?_
  simp only [Act.put, List.setIfInBounds_toArray, List.set_cons_zero, List.set_cons_succ]
  refine skip_atH 11 16 hS rfl rfl (by kernel_rfl) (by kernel_rfl) (by kernel_rfl) (fun _ _ _ h => h) rfl ?_
  simp only [Act.put, List.setIfInBounds_toArray, List.set_cons_zero, List.set_cons_succ]
  refine skip_atH 12 17 hS rfl rfl (by kernel_rfl) (by kernel_rfl) (by kernel_rfl) (fun _ _ _ h => h) rfl ?_
  simp only [Act.put, List.setIfInBounds_toArray, List.set_cons_zero, List.set_cons_succ]
  refine skip_atH 13 18 hS rfl rfl (by kernel_rfl) (by kernel_rfl) (by kernel_rfl) (fun _ _ _ h => h) rfl ?_
  simp only [Act.put, List.setIfInBounds_toArray, List.set_cons_zero, List.set_cons_succ]
  refine skip_atH 14 19 hS rfl rfl (by kernel_rfl) (by kernel_rfl) (by kernel_rfl) (fun _ _ _ h => h) rfl ?_
  simp only [Act.put, List.setIfInBounds_toArray, List.set_cons_zero, List.set_cons_succ]
  refine skip_atH 15 20 hS rfl rfl (by kernel_rfl) (by kernel_rfl) (by kernel_rfl) (fun _ _ _ h => h) rfl ?_
  simp only [Act.put, List.setIfInBounds_toArray, List.set_cons_zero, List.set_cons_succ]
  refine skip_atH 16 21 hS rfl rfl (by kernel_rfl) (by kernel_rfl) (by kernel_rfl) (fun _ _ _ h => h) rfl ?_
  simp only [Act.put, List.setIfInBounds_toArray, List.set_cons_zero, List.set_cons_succ]
  refine skip_atH 17 22 hS rfl rfl (by kernel_rfl) (by kernel_rfl) (by kernel_rfl) (fun _ _ _ h => h) rfl ?_
  simp only [Act.put, List.setIfInBounds_toArray, List.set_cons_zero, List.set_cons_succ]
  refine take_atH 18 23 hS rfl rfl (by kernel_rfl) (by kernel_rfl) (by kernel_rfl) (fun _ _ _ h => h) rfl (fun wq hq => by go_simp; first | done | with_reducible rfl) ?_
  simp only [Act.put, List.setIfInBounds_toArray, List.set_cons_zero, List.set_cons_succ]
  refine take_atH 19 24 hS rfl rfl (by kernel_rfl) (by kernel_rfl) (by kernel_rfl) (fun _ _ _ h => h) rfl (fun wq hq => by go_simp; first | done | with_reducible rfl) ?_
  simp only [Act.put, List.setIfInBounds_toArray, List.set_cons_zero, List.set_cons_succ]
  refine wpAnyH_done (by kernel_rfl) ?_ _
  obtain ⟨c0, c1, c2, c3, c4, c5, c6, c7, c8⟩ := rn_cells hS
  cases en with
  | true =>
    have hR : X = endsR z n ⟨st, sd, kd, dl, true, id, nn, dt, er⟩ := by rw [HX.out]; exact if_pos rfl
    have HC := hide (rends_any a n ca z st sd kd dl true id nn dt er wd hEd hn hW hca hs hdt)
    go_wp2_with fail
    refine HC.out.mono ?_
    rintro e w2 ⟨rfl, b2⟩
    have bw2 := below_step bd (Nat.le_refl _) b2
    go_wp2
    go_ret
    exact ⟨by first | rfl | (rw [hR]; rfl), bw2⟩
  | false =>
    have hR : X = beginsR z n ⟨st, sd, kd, dl, false, id, nn, dt, er⟩ := by rw [HX.out]; exact if_neg (by simp)
    have HC := hide (rbegins_any a n ca z st sd kd dl false id nn dt er wd hEd hn)
    go_wp2_with fail
    refine HC.out.mono ?_
    rintro e w2 ⟨rfl, b2⟩
    have bw2 := below_step bd (Nat.le_refl _) b2
    go_wp2
    go_ret
    exact ⟨by first | rfl | (rw [hR]; rfl), bw2⟩

set_option maxRecDepth 100000 in
set_option maxHeartbeats 8000000 in
theorem right_3 (a : Option Addr) (n ca : Nat) (z : Nat → En) (st : Int) (sd kd dl : Nat) (en : Bool) (id nn : Int) (dt : ByteArray) (er : Int) (w : World) (hE : HoldsE w a n z) (hn : n ≤ 1000) (hW : Wf z n) (hca : n ≤ ca) (hdt : dt.size ≤ 1000) (hs : sd ≤ 1) (h0 : 0 < n) :
    Calls Try.prog 14 #[.slice a n ca, .agg #[.int .i64 st, .int .u8 (sd : Int), .int .u8 (kd : Int), .int .u8 (dl : Int), .bool en, .int .i64 id, .int .i64 nn, .string dt, .int .i64 er]] w fun e w' => e = .returned (.bool (rightR z n ⟨st, sd, kd, dl, en, id, nn, dt, er⟩)) ∧ Below w.heap.size w w' := by
  have b1 := (Below.refl w.heap.size w).alloc (Nat.le_refl _) (.cells #[.int .i64 st, .int .u8 (sd : Int), .int .u8 (kd : Int), .int .u8 (dl : Int), .bool en, .int .i64 id, .int .i64 nn, .string dt, .int .i64 er] 36)
  have E1 : RnBlk (w.alloc (.cells #[.int .i64 st, .int .u8 (sd : Int), .int .u8 (kd : Int), .int .u8 (dl : Int), .bool en, .int .i64 id, .int .i64 nn, .string dt, .int .i64 er] 36)) w.heap.size st sd kd dl en id nn dt er := World.alloc_heap_new w _
  have hE1 := hE.below b1
  obtain ⟨c0, c1, c2, c3, c4, c5, c6, c7, c8⟩ := rn_cells E1
  clear hE
  obtain ⟨X, hX⟩ : ∃ X, rightR z n ⟨st, sd, kd, dl, en, id, nn, dt, er⟩ = X := ⟨_, rfl⟩
  rw [hX]
  have hX := hX.symm
  unfold rightR at hX
  dsimp only at hX
  have HX := hide hX
  clear hX
  have hs' : ¬ (1 : Int) < (sd : Int) := by omega
  have hd' : decide ((1 : Int) < (sd : Int)) = false := decide_eq_false hs'
  have h0' : (0 : Int) < (n : Int) := by omega
  have e0' : decide ((0 : Int) < (n : Int)) = true := decide_eq_true h0'
  obtain ⟨m, hm⟩ : ∃ m : Nat, n - 1 = m := ⟨_, rfl⟩
  have hX := HX.out
  rw [hm] at hX
  clear HX
  have hmn : m < n := by omega
  have hmI : (m : Int) < (n : Int) := by omega
  have hw1 : IntKind.i64.wrap ((n : Int) - 1) = (m : Int) := by rw [show (n : Int) - 1 = (m : Int) by omega]; exact IntWalk.i64_in _ (by omega)
  have Hm := hide hm
  clear hm
  have hE1' := hE1
  obtain ⟨lb, lo, rfl, hlb, hlc⟩ := hE1' (by omega)
  obtain ⟨ez, hze⟩ : ∃ ez, z m = ez := ⟨_, rfl⟩
  have ha := hlc m hmn
  rw [hze] at ha hX
  obtain ⟨sta, sda, kda, dla, ena, ida, na, dta, era⟩ := ez
  dsimp only at hX
  have S1 : EJ w.heap.size lb lo m sta sda kda dla ena ida na dta era st sd kd dl en id nn dt er (w.alloc (.cells #[.int .i64 st, .int .u8 (sd : Int), .int .u8 (kd : Int), .int .u8 (dl : Int), .bool en, .int .i64 id, .int .i64 nn, .string dt, .int .i64 er] 36)) := ⟨E1, hlb, ha⟩
  clear hlc ha
  by_cases hq : st < sta
  · rw [if_pos (Or.inr ⟨h0, hq⟩)] at hX
    have HX := hide hX
    clear hX c0 c1 c2 c3 c4 c5 c6 c7 c8
    have hq1 : decide (st < sta) = true := decide_eq_true hq
    go_enter Try.func14, Try.ntmps14
    go_upto_region 1 with (fail)
    generalize w.alloc (.cells #[.int .i64 st, .int .u8 (sd : Int), .int .u8 (kd : Int), .int .u8 (dl : Int), .bool en, .int .i64 id, .int .i64 nn, .string dt, .int .i64 er] 36) = w1 at *
    refine wp_region_held (S := fun W => EJ w.heap.size lb lo m sta sda kda dla ena ida na dta era st sd kd dl en id nn dt er W) (by kernel_rfl) ?_
    change wpAnyH _ _ _ _ _ _ _ _ (World.drew _)
    have hS : EJ w.heap.size lb lo m sta sda kda dla ena ida na dta era st sd kd dl en id nn dt er w1.drew := ⟨S1.e, S1.lt, S1.a⟩
    have bd : Below w.heap.size w w1.drew := below_drewN b1 1
    have hEd : HoldsE w1.drew (some ⟨lb, lo, none⟩) n z := hE1
    clear b1 hE1 S1 E1
    generalize w1.drew = wd at *
    refine take_atH 0 5 hS rfl rfl (by kernel_rfl) (by kernel_rfl) (by kernel_rfl) (fun _ _ _ h => h) rfl (fun wq hq => by go_simp; first | done | with_reducible rfl) ?_
    simp only [Act.put, List.setIfInBounds_toArray, List.set_cons_zero, List.set_cons_succ]
    refine take_atH 1 6 hS rfl rfl (by kernel_rfl) (by kernel_rfl) (by kernel_rfl) (fun _ _ _ h => h) rfl (fun wq hq => by obtain ⟨c0, c1, c2, c3, c4, c5, c6, c7, c8, a0, a1, a2, a3, a4, a5, a6, a7, a8⟩ := hq.cells; go_simp; first | done | with_reducible rfl) ?_
    simp only [Act.put, List.setIfInBounds_toArray, List.set_cons_zero, List.set_cons_succ]
    refine take_atH 2 7 hS rfl rfl (by kernel_rfl) (by kernel_rfl) (by kernel_rfl) (fun _ _ _ h => h) rfl (fun wq hq => by go_simp; first | done | with_reducible rfl) ?_
    simp only [Act.put, List.setIfInBounds_toArray, List.set_cons_zero, List.set_cons_succ]
    refine take_atH 3 8 hS rfl rfl (by kernel_rfl) (by kernel_rfl) (by kernel_rfl) (fun _ _ _ h => h) rfl (fun wq hq => by go_simp; first | done | with_reducible rfl) ?_
    simp only [Act.put, List.setIfInBounds_toArray, List.set_cons_zero, List.set_cons_succ]
    refine take_atH 4 9 hS rfl rfl (by kernel_rfl) (by kernel_rfl) (by kernel_rfl) (fun _ _ _ h => h) rfl (fun wq hq => by go_simp; first | done | with_reducible rfl) ?_
    simp only [Act.put, List.setIfInBounds_toArray, List.set_cons_zero, List.set_cons_succ]
    refine take_atH 5 10 hS rfl rfl (by kernel_rfl) (by kernel_rfl) (by kernel_rfl) (fun _ _ _ h => h) rfl (fun wq hq => by go_simp; first | done | with_reducible rfl) ?_
    simp only [Act.put, List.setIfInBounds_toArray, List.set_cons_zero, List.set_cons_succ]
    refine take_atH 6 11 hS rfl rfl (by kernel_rfl) (by kernel_rfl) (by kernel_rfl) (fun _ _ _ h => h) rfl (fun wq hq => by go_simp; first | done | with_reducible rfl) ?_
    simp only [Act.put, List.setIfInBounds_toArray, List.set_cons_zero, List.set_cons_succ]
    refine take_atH 7 12 hS rfl rfl (by kernel_rfl) (by kernel_rfl) (by kernel_rfl) (fun _ _ _ h => h) rfl (fun wq hq => by go_simp; first | done | with_reducible rfl) ?_
    simp only [Act.put, List.setIfInBounds_toArray, List.set_cons_zero, List.set_cons_succ]
    refine take_atH 8 13 hS rfl rfl (by kernel_rfl) (by kernel_rfl) (by kernel_rfl) (fun _ _ _ h => h) rfl (fun wq hq => by go_simp; first | done | with_reducible rfl) ?_
    simp only [Act.put, List.setIfInBounds_toArray, List.set_cons_zero, List.set_cons_succ]
    refine take_atH 9 14 hS rfl rfl (by kernel_rfl) (by kernel_rfl) (by kernel_rfl) (fun _ _ _ h => h) rfl (fun wq hq => by obtain ⟨c0, c1, c2, c3, c4, c5, c6, c7, c8, a0, a1, a2, a3, a4, a5, a6, a7, a8⟩ := hq.cells; go_simp; first | done | with_reducible rfl) ?_
    simp only [Act.put, List.setIfInBounds_toArray, List.set_cons_zero, List.set_cons_succ]
    refine take_atH 10 15 hS rfl rfl (by kernel_rfl) (by kernel_rfl) (by kernel_rfl) (fun _ _ _ h => h) rfl (fun wq hq => by go_simp; first | done | with_reducible rfl) ?_
    simp only [Act.put, List.setIfInBounds_toArray, List.set_cons_zero, List.set_cons_succ]
    refine take_atH 11 16 hS rfl rfl (by kernel_rfl) (by kernel_rfl) (by kernel_rfl) (fun _ _ _ h => h) rfl (fun wq hq => by go_simp; first | done | with_reducible rfl) ?_
    simp only [Act.put, List.setIfInBounds_toArray, List.set_cons_zero, List.set_cons_succ]
    refine take_atH 12 17 hS rfl rfl (by kernel_rfl) (by kernel_rfl) (by kernel_rfl) (fun _ _ _ h => h) rfl (fun wq hq => by go_simp; first | done | with_reducible rfl) ?_
    simp only [Act.put, List.setIfInBounds_toArray, List.set_cons_zero, List.set_cons_succ]
    refine take_atH 13 18 hS rfl rfl (by kernel_rfl) (by kernel_rfl) (by kernel_rfl) (fun _ _ _ h => h) rfl (fun wq hq => by go_simp; first | done | with_reducible rfl) ?_
    simp only [Act.put, List.setIfInBounds_toArray, List.set_cons_zero, List.set_cons_succ]
    refine take_atH 14 19 hS rfl rfl (by kernel_rfl) (by kernel_rfl) (by kernel_rfl) (fun _ _ _ h => h) rfl (fun wq hq => by go_simp; first | done | with_reducible rfl) ?_
    simp only [Act.put, List.setIfInBounds_toArray, List.set_cons_zero, List.set_cons_succ]
    refine take_atH 15 20 hS rfl rfl (by kernel_rfl) (by kernel_rfl) (by kernel_rfl) (fun _ _ _ h => h) rfl (fun wq hq => by go_simp; first | done | with_reducible rfl) ?_
    simp only [Act.put, List.setIfInBounds_toArray, List.set_cons_zero, List.set_cons_succ]
    refine take_atH 16 21 hS rfl rfl (by kernel_rfl) (by kernel_rfl) (by kernel_rfl) (fun _ _ _ h => h) rfl (fun wq hq => by obtain ⟨c0, c1, c2, c3, c4, c5, c6, c7, c8, a0, a1, a2, a3, a4, a5, a6, a7, a8⟩ := hq.cells; go_simp; first | done | with_reducible rfl) ?_
    simp only [Act.put, List.setIfInBounds_toArray, List.set_cons_zero, List.set_cons_succ]
    refine take_atH 17 22 hS rfl rfl (by kernel_rfl) (by kernel_rfl) (by kernel_rfl) (fun _ _ _ h => h) rfl (fun wq hq => by go_simp; first | done | with_reducible rfl) ?_
    simp only [Act.put, List.setIfInBounds_toArray, List.set_cons_zero, List.set_cons_succ]
    refine take_atH 18 23 hS rfl rfl (by kernel_rfl) (by kernel_rfl) (by kernel_rfl) (fun _ _ _ h => h) rfl (fun wq hq => by go_simp; first | done | with_reducible rfl) ?_
    simp only [Act.put, List.setIfInBounds_toArray, List.set_cons_zero, List.set_cons_succ]
    refine take_atH 19 24 hS rfl rfl (by kernel_rfl) (by kernel_rfl) (by kernel_rfl) (fun _ _ _ h => h) rfl (fun wq hq => by go_simp; first | done | with_reducible rfl) ?_
    simp only [Act.put, List.setIfInBounds_toArray, List.set_cons_zero, List.set_cons_succ]
    refine wpAnyH_done (by kernel_rfl) ?_ _
    obtain ⟨c0, c1, c2, c3, c4, c5, c6, c7, c8, a0, a1, a2, a3, a4, a5, a6, a7, a8⟩ := hS.cells
    go_wp2
    go_ret
    exact ⟨by first | rfl | (rw [HX.out]; rfl), bd⟩
  rw [if_neg (by rintro (x | x); omega; exact hq x.2)] at hX
  have HX := hide hX
  clear hX c0 c1 c2 c3 c4 c5 c6 c7 c8
  have hq' : decide (st < sta) = false := decide_eq_false hq
  go_enter Try.func14, Try.ntmps14
  go_upto_region 1 with (fail)
  generalize w.alloc (.cells #[.int .i64 st, .int .u8 (sd : Int), .int .u8 (kd : Int), .int .u8 (dl : Int), .bool en, .int .i64 id, .int .i64 nn, .string dt, .int .i64 er] 36) = w1 at *
  refine wp_region_held (S := fun W => EJ w.heap.size lb lo m sta sda kda dla ena ida na dta era st sd kd dl en id nn dt er W) (by kernel_rfl) ?_
  change wpAnyH _ _ _ _ _ _ _ _ (World.drew _)
  have hS : EJ w.heap.size lb lo m sta sda kda dla ena ida na dta era st sd kd dl en id nn dt er w1.drew := ⟨S1.e, S1.lt, S1.a⟩
  have bd : Below w.heap.size w w1.drew := below_drewN b1 1
  have hEd : HoldsE w1.drew (some ⟨lb, lo, none⟩) n z := hE1
  clear b1 hE1 S1 E1
  generalize w1.drew = wd at *
  refine take_atH 0 5 hS rfl rfl (by kernel_rfl) (by kernel_rfl) (by kernel_rfl) (fun _ _ _ h => h) rfl (fun wq hq => by go_simp; first | done | with_reducible rfl) ?_
  simp only [Act.put, List.setIfInBounds_toArray, List.set_cons_zero, List.set_cons_succ]
  refine take_atH 1 6 hS rfl rfl (by kernel_rfl) (by kernel_rfl) (by kernel_rfl) (fun _ _ _ h => h) rfl (fun wq hq => by obtain ⟨c0, c1, c2, c3, c4, c5, c6, c7, c8, a0, a1, a2, a3, a4, a5, a6, a7, a8⟩ := hq.cells; go_simp; first | done | with_reducible rfl) ?_
  simp only [Act.put, List.setIfInBounds_toArray, List.set_cons_zero, List.set_cons_succ]
  refine take_atH 2 7 hS rfl rfl (by kernel_rfl) (by kernel_rfl) (by kernel_rfl) (fun _ _ _ h => h) rfl (fun wq hq => by go_simp; first | done | with_reducible rfl) ?_
  simp only [Act.put, List.setIfInBounds_toArray, List.set_cons_zero, List.set_cons_succ]
  refine take_atH 3 8 hS rfl rfl (by kernel_rfl) (by kernel_rfl) (by kernel_rfl) (fun _ _ _ h => h) rfl (fun wq hq => by go_simp; first | done | with_reducible rfl) ?_
  simp only [Act.put, List.setIfInBounds_toArray, List.set_cons_zero, List.set_cons_succ]
  refine take_atH 4 9 hS rfl rfl (by kernel_rfl) (by kernel_rfl) (by kernel_rfl) (fun _ _ _ h => h) rfl (fun wq hq => by go_simp; first | done | with_reducible rfl) ?_
  simp only [Act.put, List.setIfInBounds_toArray, List.set_cons_zero, List.set_cons_succ]
  refine take_atH 5 10 hS rfl rfl (by kernel_rfl) (by kernel_rfl) (by kernel_rfl) (fun _ _ _ h => h) rfl (fun wq hq => by go_simp; first | done | with_reducible rfl) ?_
  simp only [Act.put, List.setIfInBounds_toArray, List.set_cons_zero, List.set_cons_succ]
  refine take_atH 6 11 hS rfl rfl (by kernel_rfl) (by kernel_rfl) (by kernel_rfl) (fun _ _ _ h => h) rfl (fun wq hq => by go_simp; first | done | with_reducible rfl) ?_
  simp only [Act.put, List.setIfInBounds_toArray, List.set_cons_zero, List.set_cons_succ]
  refine take_atH 7 12 hS rfl rfl (by kernel_rfl) (by kernel_rfl) (by kernel_rfl) (fun _ _ _ h => h) rfl (fun wq hq => by go_simp; first | done | with_reducible rfl) ?_
  simp only [Act.put, List.setIfInBounds_toArray, List.set_cons_zero, List.set_cons_succ]
  refine take_atH 8 13 hS rfl rfl (by kernel_rfl) (by kernel_rfl) (by kernel_rfl) (fun _ _ _ h => h) rfl (fun wq hq => by go_simp; first | done | with_reducible rfl) ?_
  simp only [Act.put, List.setIfInBounds_toArray, List.set_cons_zero, List.set_cons_succ]
  refine take_atH 9 14 hS rfl rfl (by kernel_rfl) (by kernel_rfl) (by kernel_rfl) (fun _ _ _ h => h) rfl (fun wq hq => by obtain ⟨c0, c1, c2, c3, c4, c5, c6, c7, c8, a0, a1, a2, a3, a4, a5, a6, a7, a8⟩ := hq.cells; go_simp; first | done | with_reducible rfl) ?_
  simp only [Act.put, List.setIfInBounds_toArray, List.set_cons_zero, List.set_cons_succ]
  refine take_atH 10 15 hS rfl rfl (by kernel_rfl) (by kernel_rfl) (by kernel_rfl) (fun _ _ _ h => h) rfl (fun wq hq => by go_simp; first | done | with_reducible rfl) ?_
  simp only [Act.put, List.setIfInBounds_toArray, List.set_cons_zero, List.set_cons_succ]
  refine take_atH 11 16 hS rfl rfl (by kernel_rfl) (by kernel_rfl) (by kernel_rfl) (fun _ _ _ h => h) rfl (fun wq hq => by go_simp; first | done | with_reducible rfl) ?_
  simp only [Act.put, List.setIfInBounds_toArray, List.set_cons_zero, List.set_cons_succ]
  refine take_atH 12 17 hS rfl rfl (by kernel_rfl) (by kernel_rfl) (by kernel_rfl) (fun _ _ _ h => h) rfl (fun wq hq => by go_simp; first | done | with_reducible rfl) ?_
  simp only [Act.put, List.setIfInBounds_toArray, List.set_cons_zero, List.set_cons_succ]
  refine take_atH 13 18 hS rfl rfl (by kernel_rfl) (by kernel_rfl) (by kernel_rfl) (fun _ _ _ h => h) rfl (fun wq hq => by go_simp; first | done | with_reducible rfl) ?_
  simp only [Act.put, List.setIfInBounds_toArray, List.set_cons_zero, List.set_cons_succ]
  refine take_atH 14 19 hS rfl rfl (by kernel_rfl) (by kernel_rfl) (by kernel_rfl) (fun _ _ _ h => h) rfl (fun wq hq => by go_simp; first | done | with_reducible rfl) ?_
  simp only [Act.put, List.setIfInBounds_toArray, List.set_cons_zero, List.set_cons_succ]
  refine take_atH 15 20 hS rfl rfl (by kernel_rfl) (by kernel_rfl) (by kernel_rfl) (fun _ _ _ h => h) rfl (fun wq hq => by go_simp; first | done | with_reducible rfl) ?_
  simp only [Act.put, List.setIfInBounds_toArray, List.set_cons_zero, List.set_cons_succ]
  refine take_atH 16 21 hS rfl rfl (by kernel_rfl) (by kernel_rfl) (by kernel_rfl) (fun _ _ _ h => h) rfl (fun wq hq => by obtain ⟨c0, c1, c2, c3, c4, c5, c6, c7, c8, a0, a1, a2, a3, a4, a5, a6, a7, a8⟩ := hq.cells; go_simp; first | done | with_reducible rfl) ?_
  simp only [Act.put, List.setIfInBounds_toArray, List.set_cons_zero, List.set_cons_succ]
  refine take_atH 17 22 hS rfl rfl (by kernel_rfl) (by kernel_rfl) (by kernel_rfl) (fun _ _ _ h => h) rfl (fun wq hq => by go_simp; first | done | with_reducible rfl) ?_
  simp only [Act.put, List.setIfInBounds_toArray, List.set_cons_zero, List.set_cons_succ]
  refine take_atH 18 23 hS rfl rfl (by kernel_rfl) (by kernel_rfl) (by kernel_rfl) (fun _ _ _ h => h) rfl (fun wq hq => by go_simp; first | done | with_reducible rfl) ?_
  simp only [Act.put, List.setIfInBounds_toArray, List.set_cons_zero, List.set_cons_succ]
  refine take_atH 19 24 hS rfl rfl (by kernel_rfl) (by kernel_rfl) (by kernel_rfl) (fun _ _ _ h => h) rfl (fun wq hq => by go_simp; first | done | with_reducible rfl) ?_
  simp only [Act.put, List.setIfInBounds_toArray, List.set_cons_zero, List.set_cons_succ]
  refine wpAnyH_done (by kernel_rfl) ?_ _
  obtain ⟨c0, c1, c2, c3, c4, c5, c6, c7, c8, a0, a1, a2, a3, a4, a5, a6, a7, a8⟩ := hS.cells
  cases en with
  | true =>
    have hR : X = endsR z n ⟨st, sd, kd, dl, true, id, nn, dt, er⟩ := by rw [HX.out]; exact if_pos rfl
    have HC := hide (rends_any (some ⟨lb, lo, none⟩) n ca z st sd kd dl true id nn dt er wd hEd hn hW hca hs hdt)
    go_wp2_with fail
    refine HC.out.mono ?_
    rintro e w2 ⟨rfl, b2⟩
    have bw2 := below_step bd (Nat.le_refl _) b2
    go_wp2
    go_ret
    exact ⟨by first | rfl | (rw [hR]; rfl), bw2⟩
  | false =>
    have hR : X = beginsR z n ⟨st, sd, kd, dl, false, id, nn, dt, er⟩ := by rw [HX.out]; exact if_neg (by simp)
    have HC := hide (rbegins_any (some ⟨lb, lo, none⟩) n ca z st sd kd dl false id nn dt er wd hEd hn)
    go_wp2_with fail
    refine HC.out.mono ?_
    rintro e w2 ⟨rfl, b2⟩
    have bw2 := below_step bd (Nat.le_refl _) b2
    go_wp2
    go_ret
    exact ⟨by first | rfl | (rw [hR]; rfl), bw2⟩

theorem right_any (a : Option Addr) (n ca : Nat) (z : Nat → En) (st : Int) (sd kd dl : Nat) (en : Bool) (id nn : Int) (dt : ByteArray) (er : Int) (w : World) (hE : HoldsE w a n z) (hn : n ≤ 1000) (hW : Wf z n) (hca : n ≤ ca) (hdt : dt.size ≤ 1000) :
    Calls Try.prog 14 #[.slice a n ca, .agg #[.int .i64 st, .int .u8 (sd : Int), .int .u8 (kd : Int), .int .u8 (dl : Int), .bool en, .int .i64 id, .int .i64 nn, .string dt, .int .i64 er]] w fun e w' => e = .returned (.bool (rightR z n ⟨st, sd, kd, dl, en, id, nn, dt, er⟩)) ∧ Below w.heap.size w w' := by
  by_cases hs : 1 < sd
  · exact right_1 a n ca z st sd kd dl en id nn dt er w hE hn hW hca hdt hs
  · by_cases h0 : n = 0
    · exact right_2 a n ca z st sd kd dl en id nn dt er w hE hn hW hca hdt (by omega) h0
    · exact right_3 a n ca z st sd kd dl en id nn dt er w hE hn hW hca hdt (by omega) (by omega)
end Go.Proofs.Ytkikonknciffiaa
