/- took: the walk. -/
import Derived.Test.YtkikonknciffiaaHsWrote
namespace Go.Proofs.Ytkikonknciffiaa
open Go.RowKit
set_option linter.unusedVariables false
set_option linter.unusedSimpArgs false

theorem lprefix_any (s p : ByteArray) (w : World) : Calls Try.prog 44 #[.string s, .string p] w fun e w' => e = .returned (.bool (hasPre s p)) ∧ w = w' := by
  go_enter Try.func44, Try.ntmps44
  by_cases h : p.size ≤ s.size
  · have h' : (p.size : Int) ≤ (s.size : Int) := by omega
    go_wp2
    go_ret
    exact ⟨by simp [hasPre, h]; exact (beq_toListBytes _ _).symm, rfl⟩
  · have h' : ¬ (p.size : Int) ≤ (s.size : Int) := by omega
    go_wp2
    go_ret
    exact ⟨by simp [hasPre, h], rfl⟩
theorem prefix_any (s p : ByteArray) (w : World) : Calls Try.prog 43 #[.string s, .string p] w fun e w' => e = .returned (.bool (hasPre s p)) ∧ w = w' := by
  go_enter Try.func43, Try.ntmps43
  go_wp2_with fail
  refine (lprefix_any s p w).mono ?_
  rintro e w2 ⟨rfl, rfl⟩
  go_wp2
  go_ret
  exact ⟨rfl, rfl⟩
/-- What took reads. -/
structure TJ (gp ga ge g g4 s d : Nat) (sta : Int) (sda kda dla : Nat) (ena : Bool) (ida na : Int) (dta : ByteArray) (era : Int) (st : Int) (sd kd dl : Nat) (en : Bool) (id n : Int) (dt : ByteArray) (er : Int) (r o : Rc) (W : World) : Prop where
  w : WJ gp ga ge g s d sta sda kda dla ena ida na dta era st sd kd dl en id n dt er r W
  o : RcBlk W g4 o
theorem TJ.cells {gp ga ge g g4 s d : Nat} {sta : Int} {sda kda dla : Nat} {ena : Bool} {ida na : Int} {dta : ByteArray} {era : Int} {st : Int} {sd kd dl : Nat} {en : Bool} {id n : Int} {dt : ByteArray} {er : Int} {r o : Rc} {W : World} (h : TJ gp ga ge g g4 s d sta sda kda dla ena ida na dta era st sd kd dl en id n dt er r o W) :
    W.cell? ⟨ge, 0, none⟩ = some (.int .i64 st) ∧ W.cell? ⟨ge, 1, none⟩ = some (.int .u8 (sd : Int)) ∧ W.cell? ⟨ge, 2, none⟩ = some (.int .u8 (kd : Int)) ∧ W.cell? ⟨ge, 3, none⟩ = some (.int .u8 (dl : Int)) ∧ W.cell? ⟨ge, 4, none⟩ = some (.bool en) ∧ W.cell? ⟨ge, 5, none⟩ = some (.int .i64 id) ∧ W.cell? ⟨ge, 6, none⟩ = some (.int .i64 n) ∧ W.cell? ⟨ge, 7, none⟩ = some (.string dt) ∧ W.cell? ⟨ge, 8, none⟩ = some (.int .i64 er) ∧ W.cell? ⟨ga, 6, none⟩ = some (.int .i64 na) ∧ W.cell? ⟨ga, 7, none⟩ = some (.string dta) ∧ W.cell? ⟨gp, 0, none⟩ = some (.int .u8 (s : Int)) ∧ W.cell? ⟨gp, 1, none⟩ = some (.int .u8 (d : Int)) ∧ W.cell? ⟨g, 54, none⟩ = some (.bool r.opened) ∧ W.cell? ⟨g, 55, none⟩ = some (.bool r.over) ∧ W.cell? ⟨g, 56, none⟩ = some (.bool r.readOver) ∧ W.cell? ⟨g, 57, none⟩ = some (.string r.wrote) ∧ W.cell? ⟨g, 58, none⟩ = some (.int .i64 r.read) ∧ W.cell? ⟨g4, 57, none⟩ = some (.string o.wrote) ∧ W.cell? ⟨g4, 34, none⟩ = some (.string (o.waits 3).data) := by
  obtain ⟨c0, c1, c2, c3, c4, c5, c6, c7, c8, a6, a7, p0, p1, r0, r1, r2, r3, r4⟩ := h.w.cells
  obtain ⟨_, _, _, o3, _, _⟩ := rc_fields h.o
  obtain ⟨_, _, _, _, _, _, _, o7, _⟩ := rc_wait h.o 3 (by decide)
  exact ⟨c0, c1, c2, c3, c4, c5, c6, c7, c8, a6, a7, p0, p1, r0, r1, r2, r3, r4, o3, o7⟩
theorem WE.keep {B gp ga ge s d : Nat} {sta : Int} {sda kda dla : Nat} {ena : Bool} {ida na : Int} {dta : ByteArray} {era : Int} {st : Int} {sd kd dl : Nat} {en : Bool} {id n : Int} {dt : ByteArray} {er : Int} {W W' : World} (h : WE gp ga ge s d sta sda kda dla ena ida na dta era st sd kd dl en id n dt er W) (k : KJ B W W') : WE gp ga ge s d sta sda kda dla ena ida na dta era st sd kd dl en id n dt er W' :=
  ⟨k.keep _ _ _ _ h.e (by decide) (by decide), k.keep _ _ _ _ h.a (by decide) (by decide), k.keep _ _ _ _ h.p (by decide) (by decide)⟩
set_option maxRecDepth 100000 in
set_option maxHeartbeats 4000000 in
theorem took_any (B gj : Nat) (js : JS) (L : List (Nat × Nat × Nat)) (s d : Nat) (sta : Int) (sda kda dla : Nat) (ena : Bool) (ida na : Int) (dta : ByteArray) (era : Int) (st : Int) (sd kd dl : Nat) (en : Bool) (id n : Int) (dt : ByteArray) (er : Int) (w : World) (hs : s ≤ 1) (hdt : dt.size ≤ 100000) (how : (js.recs (1 - s) d).wrote.size ≤ 100000) (hod : ((js.recs (1 - s) d).waits 3).data.size ≤ 100000) (hr0 : 0 ≤ (js.recs s d).read) (hr1 : (js.recs s d).read ≤ ((allJ js s d).size : Int)) (h : JAt B gj js L w) :
    Calls Try.prog 38 #[.pointer (some ⟨gj, 0, none⟩), .agg #[.int .u8 (s : Int), .int .u8 (d : Int)], .agg #[.int .i64 sta, .int .u8 (sda : Int), .int .u8 (kda : Int), .int .u8 (dla : Int), .bool ena, .int .i64 ida, .int .i64 na, .string dta, .int .i64 era], .agg #[.int .i64 st, .int .u8 (sd : Int), .int .u8 (kd : Int), .int .u8 (dl : Int), .bool en, .int .i64 id, .int .i64 n, .string dt, .int .i64 er]] w fun e w' => ∃ L', e = .returned (.bool (tookJ js s d ⟨sta, sda, kda, dla, ena, ida, na, dta, era⟩ ⟨st, sd, kd, dl, en, id, n, dt, er⟩).2) ∧ JAt B gj (tookJ js s d ⟨sta, sda, kda, dla, ena, ida, na, dta, era⟩ ⟨st, sd, kd, dl, en, id, n, dt, er⟩).1 L' w' ∧ KJ B w w' ∧ ∀ x ∈ L, x ∈ L' := by
  obtain ⟨J1, k1, P1, A1, E1⟩ := box3 h s d sta sda kda dla ena ida na dta era st sd kd dl en id n dt er
  have hB : B ≤ w.heap.size := Nat.le_trans h.ge (Nat.le_of_lt h.lt)
  clear h
  obtain ⟨p0, p1⟩ := plc_cells P1
  obtain ⟨c0, c1, c2, c3, c4, c5, c6, c7, c8, _⟩ := en_cells E1
  obtain ⟨X, hX⟩ : ∃ X, tookJ js s d ⟨sta, sda, kda, dla, ena, ida, na, dta, era⟩ ⟨st, sd, kd, dl, en, id, n, dt, er⟩ = X := ⟨_, rfl⟩
  rw [hX]
  have HX := hide hX
  clear hX
  go_enter Try.func38, Try.ntmps38
  go_upto_region 1 with (fail)
  generalize ((w.alloc (.cells #[.int .u8 (s : Int), .int .u8 (d : Int)] 62)).alloc (.cells #[.int .i64 sta, .int .u8 (sda : Int), .int .u8 (kda : Int), .int .u8 (dla : Int), .bool ena, .int .i64 ida, .int .i64 na, .string dta, .int .i64 era] 38)).alloc (.cells #[.int .i64 st, .int .u8 (sd : Int), .int .u8 (kd : Int), .int .u8 (dl : Int), .bool en, .int .i64 id, .int .i64 n, .string dt, .int .i64 er] 38) = w1 at *
  refine wp_region_held (S := fun W => WE w.heap.size (w.heap.size + 1) (w.heap.size + 2) s d sta sda kda dla ena ida na dta era st sd kd dl en id n dt er W) (by kernel_rfl) ?_
  change wpAnyH _ _ _ _ _ _ _ _ (World.drew _)
  have hS : WE w.heap.size (w.heap.size + 1) (w.heap.size + 2) s d sta sda kda dla ena ida na dta era st sd kd dl en id n dt er w1.drew := ⟨E1, A1, P1⟩
  have J2 := J1.drew
  have k2 : KJ B w w1.drew := ⟨below_drewN k1.below 1, k1.keep⟩
  clear J1 k1 E1 A1 P1 c0 c1 c2 c3 c4 c5 c6 c7 c8 p0 p1
  generalize w1.drew = w2 at *
  refine take_atH 0 12 hS rfl rfl (by kernel_rfl) (by kernel_rfl) (by kernel_rfl) (fun _ _ _ h => h) rfl (fun wq hq => by go_simp; first | done | with_reducible rfl) ?_
  simp only [Act.put, List.setIfInBounds_toArray, List.set_cons_zero, List.set_cons_succ]
  refine take_atH 1 13 hS rfl rfl (by kernel_rfl) (by kernel_rfl) (by kernel_rfl) (fun _ _ _ h => h) rfl (fun wq hq => by obtain ⟨c0, c1, c2, c3, c4, c5, c6, c7, c8, a6, a7, p0, p1⟩ := hq.cells; go_simp; first | done | with_reducible rfl) ?_
  simp only [Act.put, List.setIfInBounds_toArray, List.set_cons_zero, List.set_cons_succ]
  refine take_atH 3 15 hS rfl rfl (by kernel_rfl) (by kernel_rfl) (by kernel_rfl) (fun _ _ _ h => h) rfl (fun wq hq => by go_simp; first | done | with_reducible rfl) ?_
  simp only [Act.put, List.setIfInBounds_toArray, List.set_cons_zero, List.set_cons_succ]
  refine take_atH 4 16 hS rfl rfl (by kernel_rfl) (by kernel_rfl) (by kernel_rfl) (fun _ _ _ h => h) rfl (fun wq hq => by obtain ⟨c0, c1, c2, c3, c4, c5, c6, c7, c8, a6, a7, p0, p1⟩ := hq.cells; go_simp; first | done | with_reducible rfl) ?_
  simp only [Act.put, List.setIfInBounds_toArray, List.set_cons_zero, List.set_cons_succ]
  refine lone_atH 2 rfl (by kernel_rfl) rfl (fun K hK => ?_)
  go_simp
  refine (record_any B gj js L s d _ J2).mono ?_; rintro e wN1 ⟨g, L3, rfl, J3, hm3, hL3, k3⟩
  refine (fun hN1 => hK _ _ hN1 ?_) (hS.keep k3); clear hK K
  refine lone_atH 5 rfl (by kernel_rfl) rfl (fun K hK => ?_)
  go_simp
  refine (other_any B gj js L3 s d _ hs J3).mono ?_; rintro e wN2 ⟨g4, L4, rfl, J4, hm4, hL4, k4⟩
  refine (fun hN2 => hK _ _ hN2 ?_) ((hN1).keep k4); clear hK K
  refine take_atH 6 9 hN2 rfl rfl (by kernel_rfl) (by kernel_rfl) (by kernel_rfl) (fun _ _ _ h => h) rfl (fun wq hq => by go_simp; first | done | with_reducible rfl) ?_
  simp only [Act.put, List.setIfInBounds_toArray, List.set_cons_zero, List.set_cons_succ]
  refine take_atH 7 10 hN2 rfl rfl (by kernel_rfl) (by kernel_rfl) (by kernel_rfl) (fun _ _ _ h => h) rfl (fun wq hq => by go_simp; first | done | with_reducible rfl) ?_
  simp only [Act.put, List.setIfInBounds_toArray, List.set_cons_zero, List.set_cons_succ]
  refine wpAnyH_done (by kernel_rfl) ?_ _
  have hS0 : TJ w.heap.size (w.heap.size + 1) (w.heap.size + 2) g g4 s d sta sda kda dla ena ida na dta era st sd kd dl en id n dt er (js.recs s d) (js.recs (1 - s) d) wN2 := ⟨⟨hN2.e, hN2.a, hN2.p, (J4.recs.blk _ (hL4 _ hm3)).2⟩, (J4.recs.blk _ hm4).2⟩
  have hm := hL4 _ hm3
  have hLL : ∀ x ∈ L, x ∈ L4 := fun x hx => hL4 x (hL3 x hx)
  have hg := (J4.recs.blk _ hm).1
  dsimp only at hg
  have k5 := (k2.trans k3).trans k4
  have J5 := J4
  clear J4 hN1 hN2 k2 k3 k4 J2 J3 hS hm3 hm4 hL3 hL4
  generalize wN2 = w5 at *
  unfold allJ at hr1
  rw [ByteArray.size_append] at hr1
  have hcat : ¬ 9223372036854775807 < (js.recs (1 - s) d).wrote.size + ((js.recs (1 - s) d).waits 3).data.size := by omega
  obtain ⟨A, hA⟩ : ∃ A, (js.recs (1 - s) d).wrote ++ ((js.recs (1 - s) d).waits 3).data = A := ⟨_, rfl⟩
  have hAs : A.size = (js.recs (1 - s) d).wrote.size + ((js.recs (1 - s) d).waits 3).data.size := by rw [← hA, ByteArray.size_append]
  have hAJ : allJ js s d = A := hA
  rw [← hAs] at hr1
  have HAS := hide hAs
  clear hAs
  go_upto_region 2 with (fail)
  refine wp_region_held (S := fun W => TJ w.heap.size (w.heap.size + 1) (w.heap.size + 2) g g4 s d sta sda kda dla ena ida na dta era st sd kd dl en id n dt er (js.recs s d) (js.recs (1 - s) d) W) (by kernel_rfl) ?_
  change wpAnyH _ _ _ _ _ _ _ _ (World.drew _)
  have hS : TJ w.heap.size (w.heap.size + 1) (w.heap.size + 2) g g4 s d sta sda kda dla ena ida na dta era st sd kd dl en id n dt er (js.recs s d) (js.recs (1 - s) d) w5.drew := ⟨⟨hS0.w.e, hS0.w.a, hS0.w.p, hS0.w.r⟩, hS0.o⟩
  have J6 := J5.drew
  have k6 : KJ B w w5.drew := ⟨below_drewN k5.below 1, k5.keep⟩
  clear hS0 J5 k5
  generalize w5.drew = w6 at *
  refine take_atH 0 18 hS rfl rfl (by kernel_rfl) (by kernel_rfl) (by kernel_rfl) (fun _ _ _ h => h) rfl (fun wq hq => by go_simp; first | done | with_reducible rfl) ?_
  simp only [Act.put, List.setIfInBounds_toArray, List.set_cons_zero, List.set_cons_succ]
  refine take_atH 1 19 hS rfl rfl (by kernel_rfl) (by kernel_rfl) (by kernel_rfl) (fun _ _ _ h => h) rfl (fun wq hq => by go_simp; first | done | with_reducible rfl) ?_
  simp only [Act.put, List.setIfInBounds_toArray, List.set_cons_zero, List.set_cons_succ]
  refine take_atH 2 20 hS rfl rfl (by kernel_rfl) (by kernel_rfl) (by kernel_rfl) (fun _ _ _ h => h) rfl (fun wq hq => by go_simp; first | done | with_reducible rfl) ?_
  simp only [Act.put, List.setIfInBounds_toArray, List.set_cons_zero, List.set_cons_succ]
  refine take_atH 3 21 hS rfl rfl (by kernel_rfl) (by kernel_rfl) (by kernel_rfl) (fun _ _ _ h => h) rfl (fun wq hq => by obtain ⟨c0, c1, c2, c3, c4, c5, c6, c7, c8, a6, a7, p0, p1, r0, r1, r2, r3, r4, o3, o7⟩ := hq.cells; go_simp; first | done | with_reducible rfl) ?_
  simp only [Act.put, List.setIfInBounds_toArray, List.set_cons_zero, List.set_cons_succ]
  refine take_atH 4 22 hS rfl rfl (by kernel_rfl) (by kernel_rfl) (by kernel_rfl) (fun _ _ _ h => h) rfl (fun wq hq => by go_simp; first | done | with_reducible rfl) ?_
  simp only [Act.put, List.setIfInBounds_toArray, List.set_cons_zero, List.set_cons_succ]
  refine take_atH 5 23 hS rfl rfl (by kernel_rfl) (by kernel_rfl) (by kernel_rfl) (fun _ _ _ h => h) rfl (fun wq hq => by go_simp; first | done | with_reducible rfl) ?_
  simp only [Act.put, List.setIfInBounds_toArray, List.set_cons_zero, List.set_cons_succ]
  refine take_atH 6 24 hS rfl rfl (by kernel_rfl) (by kernel_rfl) (by kernel_rfl) (fun _ _ _ h => h) rfl (fun wq hq => by go_simp; first | done | with_reducible rfl) ?_
  simp only [Act.put, List.setIfInBounds_toArray, List.set_cons_zero, List.set_cons_succ]
  refine take_atH 7 25 hS rfl rfl (by kernel_rfl) (by kernel_rfl) (by kernel_rfl) (fun _ _ _ h => h) rfl (fun wq hq => by go_simp; first | done | with_reducible rfl) ?_
  simp only [Act.put, List.setIfInBounds_toArray, List.set_cons_zero, List.set_cons_succ]
  refine take_atH 8 26 hS rfl rfl (by kernel_rfl) (by kernel_rfl) (by kernel_rfl) (fun _ _ _ h => h) rfl (fun wq hq => by go_simp; first | done | with_reducible rfl) ?_
  simp only [Act.put, List.setIfInBounds_toArray, List.set_cons_zero, List.set_cons_succ]
  refine take_atH 9 27 hS rfl rfl (by kernel_rfl) (by kernel_rfl) (by kernel_rfl) (fun _ _ _ h => h) rfl (fun wq hq => by obtain ⟨c0, c1, c2, c3, c4, c5, c6, c7, c8, a6, a7, p0, p1, r0, r1, r2, r3, r4, o3, o7⟩ := hq.cells; go_simp; first | done | with_reducible rfl) ?_
  simp only [Act.put, List.setIfInBounds_toArray, List.set_cons_zero, List.set_cons_succ]
  refine take_atH 10 28 hS rfl rfl (by kernel_rfl) (by kernel_rfl) (by kernel_rfl) (fun _ _ _ h => h) rfl (fun wq hq => by go_simp; first | done | with_reducible rfl) ?_
  simp only [Act.put, List.setIfInBounds_toArray, List.set_cons_zero, List.set_cons_succ]
  refine take_atH 11 11 hS rfl rfl (by kernel_rfl) (by kernel_rfl) (by kernel_rfl) (fun _ _ _ h => h) rfl (fun wq hq => by go_simp; first | done | with_reducible rfl) ?_
  simp only [Act.put, List.setIfInBounds_toArray, List.set_cons_zero, List.set_cons_succ]
  refine wpAnyH_done (by kernel_rfl) ?_ _
  have hS0 := hS
  clear hS hA hcat
  obtain ⟨c0, c1, c2, c3, c4, c5, c6, c7, c8, a6, a7, p0, p1, r0, r1, r2, r3, r4, o3, o7⟩ := hS0.cells
  by_cases h0 : n = 0
  · subst h0
    have hc0 : ¬ ((0 : Int) ≠ 0) := by simp
    go_wp2_with fail
    refine (hended_any er w6).mono ?_
    rintro e w7 ⟨rfl, rfl⟩
    cases he : endedE er with
    | true =>
      have h5 : er ≠ 0 := by rintro rfl; revert he; decide
      have h5' : (er == 0) = false := beq_eq_false_iff_ne.2 h5
      by_cases h1 : dt = ⟨#[]⟩
      · subst h1
        have hX : X = (js.upd s d { js.recs s d with readOver := true }, true) := by rw [← HX.out]; unfold tookJ; rw [if_neg hc0, if_pos ⟨he, rfl⟩]
        have R8 : RcBlk (w6.setCell ⟨g, 56, none⟩ (.bool true)) g { js.recs s d with readOver := true } := blk_set hS0.w.r 56 (.bool true)
        have J8 := J6.turn hm R8 (fun j hj => Below.heap_setCell _ ⟨g, 56, none⟩ _ j hj)
        have k8 := k6.set hg hS0.w.r (.bool true) (q := 56)
        obtain ⟨_, _, _, _, _, fz⟩ := rc_fields hS0.w.r
        go_wp2
        go_ret
        try rw [hX]
        first | exact ⟨L4, rfl, J8, k8, (by first | exact hLL | exact fun a b c h => hLL (a, b, c) h)⟩ | exact ⟨rfl, L4, J8, k8, (by first | exact hLL | exact fun a b c h => hLL (a, b, c) h)⟩
      · obtain ⟨h1', h1a, h1b, h1c⟩ := str_ne h1
        have hX : X = (js, false) := by rw [← HX.out]; unfold tookJ; rw [if_neg hc0, if_neg (fun h => h1 h.2), if_pos (.inl h5)]
        go_wp2
        go_ret
        try rw [hX]
        first | exact ⟨L4, rfl, J6, k6, (by first | exact hLL | exact fun a b c h => hLL (a, b, c) h)⟩ | exact ⟨rfl, L4, J6, k6, (by first | exact hLL | exact fun a b c h => hLL (a, b, c) h)⟩
    | false =>
      have hc1 : ¬ (endedE er = true ∧ dt = ⟨#[]⟩) := by rw [he]; simp
      by_cases h5 : er = 0
      · subst h5
        by_cases h6 : max 0 na < (dt.size : Int)
        · have hX : X = (js, false) := by rw [← HX.out]; unfold tookJ; rw [if_neg hc0, if_neg hc1, if_pos (.inr h6)]
          go_wp2
          go_ret
          try rw [hX]
          first | exact ⟨L4, rfl, J6, k6, (by first | exact hLL | exact fun a b c h => hLL (a, b, c) h)⟩ | exact ⟨rfl, L4, J6, k6, (by first | exact hLL | exact fun a b c h => hLL (a, b, c) h)⟩
        ·
          have hc2 : ¬ ((0 : Int) ≠ 0 ∨ max 0 na < (dt.size : Int)) := by rintro (h | h); exact h rfl; exact h6 h
          by_cases h1 : dt = ⟨#[]⟩
          · subst h1
            have hX : X = (js, decide (na < 1)) := by rw [← HX.out]; unfold tookJ; rw [if_neg hc0, if_neg hc1, if_neg hc2, if_pos rfl]
            go_wp2
            go_ret
            try rw [hX]
            first | exact ⟨L4, rfl, J6, k6, (by first | exact hLL | exact fun a b c h => hLL (a, b, c) h)⟩ | exact ⟨rfl, L4, J6, k6, (by first | exact hLL | exact fun a b c h => hLL (a, b, c) h)⟩
          obtain ⟨h1', h1a, h1b, h1c⟩ := str_ne h1
          obtain ⟨R, hR⟩ := Int.eq_ofNat_of_zero_le hr0
          have hRA : R ≤ A.size := by omega
          have hRA' : (R : Int) ≤ (A.size : Int) := by omega
          have hAs2 : A.size ≤ 200000 := by rw [HAS.out]; omega
          obtain ⟨Y, hY⟩ : ∃ Y, A.extract R A.size = Y := ⟨_, rfl⟩
          cases hro : (js.recs s d).readOver with
          | true =>
            have hX : X = (js, false) := by rw [← HX.out]; unfold tookJ; rw [if_neg hc0, if_neg hc1, if_neg hc2, if_neg h1, if_pos (.inl hro)]
            go_upto_region 12 with (fail)
            refine wp_region_held (S := fun W => TJ w.heap.size (w.heap.size + 1) (w.heap.size + 2) g g4 s d sta sda kda dla ena ida na dta era st sd kd dl en id 0 dt 0 (js.recs s d) (js.recs (1 - s) d) W) (by kernel_rfl) ?_
            change wpAnyH _ _ _ _ _ _ _ _ (World.drew _)
            have hS : TJ w.heap.size (w.heap.size + 1) (w.heap.size + 2) g g4 s d sta sda kda dla ena ida na dta era st sd kd dl en id 0 dt 0 (js.recs s d) (js.recs (1 - s) d) w6.drew := ⟨⟨hS0.w.e, hS0.w.a, hS0.w.p, hS0.w.r⟩, hS0.o⟩
            have J7 := J6.drew
            have k7 : KJ B w w6.drew := ⟨below_drewN k6.below 1, k6.keep⟩
            clear hS0 J6 k6
            generalize w6.drew = w7 at *
            refine take_atH 0 66 hS rfl rfl (by kernel_rfl) (by kernel_rfl) (by kernel_rfl) (fun _ _ _ h => h) rfl (fun wq hq => by go_simp; first | done | with_reducible rfl) ?_
            simp only [Act.put, List.setIfInBounds_toArray, List.set_cons_zero, List.set_cons_succ]
            refine take_atH 1 67 hS rfl rfl (by kernel_rfl) (by kernel_rfl) (by kernel_rfl) (fun _ _ _ h => h) rfl (fun wq hq => by go_simp; first | done | with_reducible rfl) ?_
            simp only [Act.put, List.setIfInBounds_toArray, List.set_cons_zero, List.set_cons_succ]
            refine take_atH 2 68 hS rfl rfl (by kernel_rfl) (by kernel_rfl) (by kernel_rfl) (fun _ _ _ h => h) rfl (fun wq hq => by go_simp; first | done | with_reducible rfl) ?_
            simp only [Act.put, List.setIfInBounds_toArray, List.set_cons_zero, List.set_cons_succ]
            refine take_atH 3 69 hS rfl rfl (by kernel_rfl) (by kernel_rfl) (by kernel_rfl) (fun _ _ _ h => h) rfl (fun wq hq => by obtain ⟨c0, c1, c2, c3, c4, c5, c6, c7, c8, a6, a7, p0, p1, r0, r1, r2, r3, r4, o3, o7⟩ := hq.cells; go_simp; first | done | with_reducible rfl) ?_
            simp only [Act.put, List.setIfInBounds_toArray, List.set_cons_zero, List.set_cons_succ]
            refine take_atH 4 70 hS rfl rfl (by kernel_rfl) (by kernel_rfl) (by kernel_rfl) (fun _ _ _ h => h) rfl (fun wq hq => by go_simp; first | done | with_reducible rfl) ?_
            simp only [Act.put, List.setIfInBounds_toArray, List.set_cons_zero, List.set_cons_succ]
            refine skip_atH 5 71 hS rfl rfl (by kernel_rfl) (by kernel_rfl) (by kernel_rfl) (fun _ _ _ h => h) rfl ?_
            simp only [Act.put, List.setIfInBounds_toArray, List.set_cons_zero, List.set_cons_succ]
            refine skip_atH 6 72 hS rfl rfl (by kernel_rfl) (by kernel_rfl) (by kernel_rfl) (fun _ _ _ h => h) rfl ?_
            simp only [Act.put, List.setIfInBounds_toArray, List.set_cons_zero, List.set_cons_succ]
            refine skip_atH 7 73 hS rfl rfl (by kernel_rfl) (by kernel_rfl) (by kernel_rfl) (fun _ _ _ h => h) rfl ?_
            simp only [Act.put, List.setIfInBounds_toArray, List.set_cons_zero, List.set_cons_succ]
            refine skip_atH 8 74 hS rfl rfl (by kernel_rfl) (by kernel_rfl) (by kernel_rfl) (fun _ _ _ h => h) rfl ?_
            simp only [Act.put, List.setIfInBounds_toArray, List.set_cons_zero, List.set_cons_succ]
            refine skip_atH 9 75 hS rfl rfl (by kernel_rfl) (by kernel_rfl) (by kernel_rfl) (fun _ _ _ h => h) rfl ?_
            simp only [Act.put, List.setIfInBounds_toArray, List.set_cons_zero, List.set_cons_succ]
            refine skip_atH 10 76 hS rfl rfl (by kernel_rfl) (by kernel_rfl) (by kernel_rfl) (fun _ _ _ h => h) rfl ?_
            simp only [Act.put, List.setIfInBounds_toArray, List.set_cons_zero, List.set_cons_succ]
            refine skip_atH 11 77 hS rfl rfl (by kernel_rfl) (by kernel_rfl) (by kernel_rfl) (fun _ _ _ h => h) rfl ?_
            simp only [Act.put, List.setIfInBounds_toArray, List.set_cons_zero, List.set_cons_succ]
            refine skip_atH 12 78 hS rfl rfl (by kernel_rfl) (by kernel_rfl) (by kernel_rfl) (fun _ _ _ h => h) rfl ?_
            simp only [Act.put, List.setIfInBounds_toArray, List.set_cons_zero, List.set_cons_succ]
            refine skip_atH 13 79 hS rfl rfl (by kernel_rfl) (by kernel_rfl) (by kernel_rfl) (fun _ _ _ h => h) rfl ?_
            simp only [Act.put, List.setIfInBounds_toArray, List.set_cons_zero, List.set_cons_succ]
            refine skip_atH 14 80 hS rfl rfl (by kernel_rfl) (by kernel_rfl) (by kernel_rfl) (fun _ _ _ h => h) rfl ?_
            simp only [Act.put, List.setIfInBounds_toArray, List.set_cons_zero, List.set_cons_succ]
            refine take_atH 15 81 hS rfl rfl (by kernel_rfl) (by kernel_rfl) (by kernel_rfl) (fun _ _ _ h => h) rfl (fun wq hq => by go_simp; first | done | with_reducible rfl) ?_
            simp only [Act.put, List.setIfInBounds_toArray, List.set_cons_zero, List.set_cons_succ]
            refine take_atH 16 65 hS rfl rfl (by kernel_rfl) (by kernel_rfl) (by kernel_rfl) (fun _ _ _ h => h) rfl (fun wq hq => by go_simp; first | done | with_reducible rfl) ?_
            simp only [Act.put, List.setIfInBounds_toArray, List.set_cons_zero, List.set_cons_succ]
            refine wpAnyH_done (by kernel_rfl) ?_ _
            go_wp2
            go_ret
            try rw [hX]
            first | exact ⟨L4, rfl, J7, k7, (by first | exact hLL | exact fun a b c h => hLL (a, b, c) h)⟩ | exact ⟨rfl, L4, J7, k7, (by first | exact hLL | exact fun a b c h => hLL (a, b, c) h)⟩
          | false =>
            cases hp : hasPre Y dt with
            | false =>
              have hX : X = (js, false) := by rw [← HX.out]; unfold tookJ; rw [if_neg hc0, if_neg hc1, if_neg hc2, if_neg h1, hAJ, hR, Int.toNat_natCast, hY, if_pos (.inr hp)]
              go_upto_region 12 with (fail)
              refine wp_region_held (S := fun W => TJ w.heap.size (w.heap.size + 1) (w.heap.size + 2) g g4 s d sta sda kda dla ena ida na dta era st sd kd dl en id 0 dt 0 (js.recs s d) (js.recs (1 - s) d) W) (by kernel_rfl) ?_
              change wpAnyH _ _ _ _ _ _ _ _ (World.drew _)
              have hS : TJ w.heap.size (w.heap.size + 1) (w.heap.size + 2) g g4 s d sta sda kda dla ena ida na dta era st sd kd dl en id 0 dt 0 (js.recs s d) (js.recs (1 - s) d) w6.drew := ⟨⟨hS0.w.e, hS0.w.a, hS0.w.p, hS0.w.r⟩, hS0.o⟩
              have J7 := J6.drew
              have k7 : KJ B w w6.drew := ⟨below_drewN k6.below 1, k6.keep⟩
              clear hS0 J6 k6
              generalize w6.drew = w7 at *
              refine take_atH 0 66 hS rfl rfl (by kernel_rfl) (by kernel_rfl) (by kernel_rfl) (fun _ _ _ h => h) rfl (fun wq hq => by go_simp; first | done | with_reducible rfl) ?_
              simp only [Act.put, List.setIfInBounds_toArray, List.set_cons_zero, List.set_cons_succ]
              refine take_atH 1 67 hS rfl rfl (by kernel_rfl) (by kernel_rfl) (by kernel_rfl) (fun _ _ _ h => h) rfl (fun wq hq => by go_simp; first | done | with_reducible rfl) ?_
              simp only [Act.put, List.setIfInBounds_toArray, List.set_cons_zero, List.set_cons_succ]
              refine take_atH 2 68 hS rfl rfl (by kernel_rfl) (by kernel_rfl) (by kernel_rfl) (fun _ _ _ h => h) rfl (fun wq hq => by go_simp; first | done | with_reducible rfl) ?_
              simp only [Act.put, List.setIfInBounds_toArray, List.set_cons_zero, List.set_cons_succ]
              refine take_atH 3 69 hS rfl rfl (by kernel_rfl) (by kernel_rfl) (by kernel_rfl) (fun _ _ _ h => h) rfl (fun wq hq => by obtain ⟨c0, c1, c2, c3, c4, c5, c6, c7, c8, a6, a7, p0, p1, r0, r1, r2, r3, r4, o3, o7⟩ := hq.cells; go_simp; first | done | with_reducible rfl) ?_
              simp only [Act.put, List.setIfInBounds_toArray, List.set_cons_zero, List.set_cons_succ]
              refine take_atH 4 70 hS rfl rfl (by kernel_rfl) (by kernel_rfl) (by kernel_rfl) (fun _ _ _ h => h) rfl (fun wq hq => by go_simp; first | done | with_reducible rfl) ?_
              simp only [Act.put, List.setIfInBounds_toArray, List.set_cons_zero, List.set_cons_succ]
              refine take_atH 5 71 hS rfl rfl (by kernel_rfl) (by kernel_rfl) (by kernel_rfl) (fun _ _ _ h => h) rfl (fun wq hq => by go_simp; first | done | with_reducible rfl) ?_
              simp only [Act.put, List.setIfInBounds_toArray, List.set_cons_zero, List.set_cons_succ]
              refine take_atH 6 72 hS rfl rfl (by kernel_rfl) (by kernel_rfl) (by kernel_rfl) (fun _ _ _ h => h) rfl (fun wq hq => by go_simp; first | done | with_reducible rfl) ?_
              simp only [Act.put, List.setIfInBounds_toArray, List.set_cons_zero, List.set_cons_succ]
              refine take_atH 7 73 hS rfl rfl (by kernel_rfl) (by kernel_rfl) (by kernel_rfl) (fun _ _ _ h => h) rfl (fun wq hq => by go_simp; first | done | with_reducible rfl) ?_
              simp only [Act.put, List.setIfInBounds_toArray, List.set_cons_zero, List.set_cons_succ]
              refine take_atH 8 74 hS rfl rfl (by kernel_rfl) (by kernel_rfl) (by kernel_rfl) (fun _ _ _ h => h) rfl (fun wq hq => by go_simp; first | done | with_reducible rfl) ?_
              simp only [Act.put, List.setIfInBounds_toArray, List.set_cons_zero, List.set_cons_succ]
              refine take_atH 9 75 hS rfl rfl (by kernel_rfl) (by kernel_rfl) (by kernel_rfl) (fun _ _ _ h => h) rfl (fun wq hq => by obtain ⟨c0, c1, c2, c3, c4, c5, c6, c7, c8, a6, a7, p0, p1, r0, r1, r2, r3, r4, o3, o7⟩ := hq.cells; go_simp; first | done | with_reducible rfl) ?_
              simp only [Act.put, List.setIfInBounds_toArray, List.set_cons_zero, List.set_cons_succ]
              refine take_atH 10 76 hS rfl rfl (by kernel_rfl) (by kernel_rfl) (by kernel_rfl) (fun _ _ _ h => h) rfl (fun wq hq => by go_simp; first | done | with_reducible rfl) ?_
              simp only [Act.put, List.setIfInBounds_toArray, List.set_cons_zero, List.set_cons_succ]
              refine take_atH 11 77 hS rfl rfl (by kernel_rfl) (by kernel_rfl) (by kernel_rfl) (fun _ _ _ h => h) rfl (fun wq hq => by go_simp; first | done | with_reducible rfl) ?_
              simp only [Act.put, List.setIfInBounds_toArray, List.set_cons_zero, List.set_cons_succ]
              refine take_atH 12 78 hS rfl rfl (by kernel_rfl) (by kernel_rfl) (by kernel_rfl) (fun _ _ _ h => h) rfl (fun wq hq => by obtain ⟨c0, c1, c2, c3, c4, c5, c6, c7, c8, a6, a7, p0, p1, r0, r1, r2, r3, r4, o3, o7⟩ := hq.cells; go_simp; first | done | with_reducible rfl) ?_
              simp only [Act.put, List.setIfInBounds_toArray, List.set_cons_zero, List.set_cons_succ]
              refine lone_atH 13 rfl (by kernel_rfl) rfl (fun K hK => ?_)
              go_simp
              refine (prefix_any _ _ _).mono ?_; rintro e wN1 ⟨rfl, rfl⟩
              refine hK _ _ hS ?_; clear hK K
              refine take_atH 14 80 hS rfl rfl (by kernel_rfl) (by kernel_rfl) (by kernel_rfl) (fun _ _ _ h => h) rfl (fun wq hq => by go_simp; first | done | with_reducible rfl) ?_
              simp only [Act.put, List.setIfInBounds_toArray, List.set_cons_zero, List.set_cons_succ]
              refine take_atH 15 81 hS rfl rfl (by kernel_rfl) (by kernel_rfl) (by kernel_rfl) (fun _ _ _ h => h) rfl (fun wq hq => by go_simp; first | done | with_reducible rfl) ?_
              simp only [Act.put, List.setIfInBounds_toArray, List.set_cons_zero, List.set_cons_succ]
              refine take_atH 16 65 hS rfl rfl (by kernel_rfl) (by kernel_rfl) (by kernel_rfl) (fun _ _ _ h => h) rfl (fun wq hq => by go_simp; first | done | with_reducible rfl) ?_
              simp only [Act.put, List.setIfInBounds_toArray, List.set_cons_zero, List.set_cons_succ]
              refine wpAnyH_done (by kernel_rfl) ?_ _
              go_wp2
              go_ret
              try rw [hX]
              first | exact ⟨L4, rfl, J7, k7, (by first | exact hLL | exact fun a b c h => hLL (a, b, c) h)⟩ | exact ⟨rfl, L4, J7, k7, (by first | exact hLL | exact fun a b c h => hLL (a, b, c) h)⟩
            | true =>
              have hX : X = (js.upd s d { js.recs s d with read := (R : Int) + (dt.size : Int) }, true) := by rw [← HX.out]; unfold tookJ; rw [if_neg hc0, if_neg hc1, if_neg hc2, if_neg h1, hAJ, hR, Int.toNat_natCast, hY, if_neg (by rintro (h | h); rw [hro] at h; cases h; rw [hp] at h; cases h)]
              go_upto_region 12 with (fail)
              refine wp_region_held (S := fun W => TJ w.heap.size (w.heap.size + 1) (w.heap.size + 2) g g4 s d sta sda kda dla ena ida na dta era st sd kd dl en id 0 dt 0 (js.recs s d) (js.recs (1 - s) d) W) (by kernel_rfl) ?_
              change wpAnyH _ _ _ _ _ _ _ _ (World.drew _)
              have hS : TJ w.heap.size (w.heap.size + 1) (w.heap.size + 2) g g4 s d sta sda kda dla ena ida na dta era st sd kd dl en id 0 dt 0 (js.recs s d) (js.recs (1 - s) d) w6.drew := ⟨⟨hS0.w.e, hS0.w.a, hS0.w.p, hS0.w.r⟩, hS0.o⟩
              have J7 := J6.drew
              have k7 : KJ B w w6.drew := ⟨below_drewN k6.below 1, k6.keep⟩
              clear hS0 J6 k6
              generalize w6.drew = w7 at *
              refine take_atH 0 66 hS rfl rfl (by kernel_rfl) (by kernel_rfl) (by kernel_rfl) (fun _ _ _ h => h) rfl (fun wq hq => by go_simp; first | done | with_reducible rfl) ?_
              simp only [Act.put, List.setIfInBounds_toArray, List.set_cons_zero, List.set_cons_succ]
              refine take_atH 1 67 hS rfl rfl (by kernel_rfl) (by kernel_rfl) (by kernel_rfl) (fun _ _ _ h => h) rfl (fun wq hq => by go_simp; first | done | with_reducible rfl) ?_
              simp only [Act.put, List.setIfInBounds_toArray, List.set_cons_zero, List.set_cons_succ]
              refine take_atH 2 68 hS rfl rfl (by kernel_rfl) (by kernel_rfl) (by kernel_rfl) (fun _ _ _ h => h) rfl (fun wq hq => by go_simp; first | done | with_reducible rfl) ?_
              simp only [Act.put, List.setIfInBounds_toArray, List.set_cons_zero, List.set_cons_succ]
              refine take_atH 3 69 hS rfl rfl (by kernel_rfl) (by kernel_rfl) (by kernel_rfl) (fun _ _ _ h => h) rfl (fun wq hq => by obtain ⟨c0, c1, c2, c3, c4, c5, c6, c7, c8, a6, a7, p0, p1, r0, r1, r2, r3, r4, o3, o7⟩ := hq.cells; go_simp; first | done | with_reducible rfl) ?_
              simp only [Act.put, List.setIfInBounds_toArray, List.set_cons_zero, List.set_cons_succ]
              refine take_atH 4 70 hS rfl rfl (by kernel_rfl) (by kernel_rfl) (by kernel_rfl) (fun _ _ _ h => h) rfl (fun wq hq => by go_simp; first | done | with_reducible rfl) ?_
              simp only [Act.put, List.setIfInBounds_toArray, List.set_cons_zero, List.set_cons_succ]
              refine take_atH 5 71 hS rfl rfl (by kernel_rfl) (by kernel_rfl) (by kernel_rfl) (fun _ _ _ h => h) rfl (fun wq hq => by go_simp; first | done | with_reducible rfl) ?_
              simp only [Act.put, List.setIfInBounds_toArray, List.set_cons_zero, List.set_cons_succ]
              refine take_atH 6 72 hS rfl rfl (by kernel_rfl) (by kernel_rfl) (by kernel_rfl) (fun _ _ _ h => h) rfl (fun wq hq => by go_simp; first | done | with_reducible rfl) ?_
              simp only [Act.put, List.setIfInBounds_toArray, List.set_cons_zero, List.set_cons_succ]
              refine take_atH 7 73 hS rfl rfl (by kernel_rfl) (by kernel_rfl) (by kernel_rfl) (fun _ _ _ h => h) rfl (fun wq hq => by go_simp; first | done | with_reducible rfl) ?_
              simp only [Act.put, List.setIfInBounds_toArray, List.set_cons_zero, List.set_cons_succ]
              refine take_atH 8 74 hS rfl rfl (by kernel_rfl) (by kernel_rfl) (by kernel_rfl) (fun _ _ _ h => h) rfl (fun wq hq => by go_simp; first | done | with_reducible rfl) ?_
              simp only [Act.put, List.setIfInBounds_toArray, List.set_cons_zero, List.set_cons_succ]
              refine take_atH 9 75 hS rfl rfl (by kernel_rfl) (by kernel_rfl) (by kernel_rfl) (fun _ _ _ h => h) rfl (fun wq hq => by obtain ⟨c0, c1, c2, c3, c4, c5, c6, c7, c8, a6, a7, p0, p1, r0, r1, r2, r3, r4, o3, o7⟩ := hq.cells; go_simp; first | done | with_reducible rfl) ?_
              simp only [Act.put, List.setIfInBounds_toArray, List.set_cons_zero, List.set_cons_succ]
              refine take_atH 10 76 hS rfl rfl (by kernel_rfl) (by kernel_rfl) (by kernel_rfl) (fun _ _ _ h => h) rfl (fun wq hq => by go_simp; first | done | with_reducible rfl) ?_
              simp only [Act.put, List.setIfInBounds_toArray, List.set_cons_zero, List.set_cons_succ]
              refine take_atH 11 77 hS rfl rfl (by kernel_rfl) (by kernel_rfl) (by kernel_rfl) (fun _ _ _ h => h) rfl (fun wq hq => by go_simp; first | done | with_reducible rfl) ?_
              simp only [Act.put, List.setIfInBounds_toArray, List.set_cons_zero, List.set_cons_succ]
              refine take_atH 12 78 hS rfl rfl (by kernel_rfl) (by kernel_rfl) (by kernel_rfl) (fun _ _ _ h => h) rfl (fun wq hq => by obtain ⟨c0, c1, c2, c3, c4, c5, c6, c7, c8, a6, a7, p0, p1, r0, r1, r2, r3, r4, o3, o7⟩ := hq.cells; go_simp; first | done | with_reducible rfl) ?_
              simp only [Act.put, List.setIfInBounds_toArray, List.set_cons_zero, List.set_cons_succ]
              refine lone_atH 13 rfl (by kernel_rfl) rfl (fun K hK => ?_)
              go_simp
              refine (prefix_any _ _ _).mono ?_; rintro e wN1 ⟨rfl, rfl⟩
              refine hK _ _ hS ?_; clear hK K
              refine take_atH 14 80 hS rfl rfl (by kernel_rfl) (by kernel_rfl) (by kernel_rfl) (fun _ _ _ h => h) rfl (fun wq hq => by go_simp; first | done | with_reducible rfl) ?_
              simp only [Act.put, List.setIfInBounds_toArray, List.set_cons_zero, List.set_cons_succ]
              refine take_atH 15 81 hS rfl rfl (by kernel_rfl) (by kernel_rfl) (by kernel_rfl) (fun _ _ _ h => h) rfl (fun wq hq => by go_simp; first | done | with_reducible rfl) ?_
              simp only [Act.put, List.setIfInBounds_toArray, List.set_cons_zero, List.set_cons_succ]
              refine take_atH 16 65 hS rfl rfl (by kernel_rfl) (by kernel_rfl) (by kernel_rfl) (fun _ _ _ h => h) rfl (fun wq hq => by go_simp; first | done | with_reducible rfl) ?_
              simp only [Act.put, List.setIfInBounds_toArray, List.set_cons_zero, List.set_cons_succ]
              refine wpAnyH_done (by kernel_rfl) ?_ _
              have hS0 := hS
              have hw : IntKind.i64.wrap ((R : Int) + (dt.size : Int)) = (R : Int) + (dt.size : Int) := IntWalk.i64_in _ (by omega)
              clear hS
              go_upto_region 14 with (fail)
              refine wp_region_held (S := fun W => WE w.heap.size (w.heap.size + 1) (w.heap.size + 2) s d sta sda kda dla ena ida na dta era st sd kd dl en id 0 dt 0 W) (by kernel_rfl) ?_
              change wpAnyH _ _ _ _ _ _ _ _ (World.drew _)
              have hS : WE w.heap.size (w.heap.size + 1) (w.heap.size + 2) s d sta sda kda dla ena ida na dta era st sd kd dl en id 0 dt 0 w7.drew := ⟨hS0.w.e, hS0.w.a, hS0.w.p⟩
              have R8 : RcBlk w7.drew g (js.recs s d) := hS0.w.r
              have J8 := J7.drew
              have k8 : KJ B w w7.drew := ⟨below_drewN k7.below 1, k7.keep⟩
              clear J7 k7 hS0
              generalize w7.drew = w8 at *
              obtain ⟨_, _, _, _, x4, fz⟩ := rc_fields R8
              refine take_atH 0 82 hS rfl rfl (by kernel_rfl) (by kernel_rfl) (by kernel_rfl) (fun _ _ _ h => h) rfl (fun wq hq => by go_simp; first | done | with_reducible rfl) ?_
              simp only [Act.put, List.setIfInBounds_toArray, List.set_cons_zero, List.set_cons_succ]
              refine take_atH 1 83 hS rfl rfl (by kernel_rfl) (by kernel_rfl) (by kernel_rfl) (fun _ _ _ h => h) rfl (fun wq hq => by go_simp; first | done | with_reducible rfl) ?_
              simp only [Act.put, List.setIfInBounds_toArray, List.set_cons_zero, List.set_cons_succ]
              refine take_atH 2 84 hS rfl rfl (by kernel_rfl) (by kernel_rfl) (by kernel_rfl) (fun _ _ _ h => h) rfl (fun wq hq => by go_simp; first | done | with_reducible rfl) ?_
              simp only [Act.put, List.setIfInBounds_toArray, List.set_cons_zero, List.set_cons_succ]
              refine take_atH 4 86 hS rfl rfl (by kernel_rfl) (by kernel_rfl) (by kernel_rfl) (fun _ _ _ h => h) rfl (fun wq hq => by go_simp; first | done | with_reducible rfl) ?_
              simp only [Act.put, List.setIfInBounds_toArray, List.set_cons_zero, List.set_cons_succ]
              refine take_atH 5 87 hS rfl rfl (by kernel_rfl) (by kernel_rfl) (by kernel_rfl) (fun _ _ _ h => h) rfl (fun wq hq => by obtain ⟨c0, c1, c2, c3, c4, c5, c6, c7, c8, a6, a7, p0, p1⟩ := hq.cells; go_simp; first | done | with_reducible rfl) ?_
              simp only [Act.put, List.setIfInBounds_toArray, List.set_cons_zero, List.set_cons_succ]
              refine take_atH 6 88 hS rfl rfl (by kernel_rfl) (by kernel_rfl) (by kernel_rfl) (fun _ _ _ h => h) rfl (fun wq hq => by go_simp; first | done | with_reducible rfl) ?_
              simp only [Act.put, List.setIfInBounds_toArray, List.set_cons_zero, List.set_cons_succ]
              refine lone_atH 3 rfl (by kernel_rfl) rfl (fun K hK => ?_)
              go_simp
              refine hK _ _ hS ?_; clear hK K
              refine take_atH 7 89 hS rfl rfl (by kernel_rfl) (by kernel_rfl) (by kernel_rfl) (fun _ _ _ h => h) rfl (fun wq hq => by go_simp; first | done | with_reducible rfl) ?_
              simp only [Act.put, List.setIfInBounds_toArray, List.set_cons_zero, List.set_cons_succ]
              refine take_atH 8 90 hS rfl rfl (by kernel_rfl) (by kernel_rfl) (by kernel_rfl) (fun _ _ _ h => h) rfl (fun wq hq => by go_simp; first | done | with_reducible rfl) ?_
              simp only [Act.put, List.setIfInBounds_toArray, List.set_cons_zero, List.set_cons_succ]
              refine take_atH 9 91 hS rfl rfl (by kernel_rfl) (by kernel_rfl) (by kernel_rfl) (fun _ _ _ h => h) rfl (fun wq hq => by go_simp; first | done | with_reducible rfl) ?_
              simp only [Act.put, List.setIfInBounds_toArray, List.set_cons_zero, List.set_cons_succ]
              refine lone_atH 10 rfl (by kernel_rfl) rfl (fun K hK => ?_)
              have R9 : RcBlk (w8.setCell ⟨g, 58, none⟩ (.int .i64 ((R : Int) + (dt.size : Int)))) g { js.recs s d with read := (R : Int) + (dt.size : Int) } := blk_set R8 58 (.int .i64 ((R : Int) + (dt.size : Int)))
              have J9 := J8.turn hm R9 (fun j hj => Below.heap_setCell _ ⟨g, 58, none⟩ _ j hj)
              have k9 := k8.set hg R8 (.int .i64 ((R : Int) + (dt.size : Int))) (q := 58)
              have S9 := hS.set J8 hm (W' := w8.setCell ⟨g, 58, none⟩ (.int .i64 ((R : Int) + (dt.size : Int)))) (fun j hj => Below.heap_setCell _ ⟨g, 58, none⟩ _ j hj)
              go_simp
              refine hK _ _ S9 ?_; clear hK K
              refine wpAnyH_done (by kernel_rfl) ?_ _
              simp only [hro] at J9
              go_wp2
              go_ret
              try rw [hX]
              first | exact ⟨L4, rfl, J9, k9, (by first | exact hLL | exact fun a b c h => hLL (a, b, c) h)⟩ | exact ⟨rfl, L4, J9, k9, (by first | exact hLL | exact fun a b c h => hLL (a, b, c) h)⟩
      · have h5' : (er == 0) = false := beq_eq_false_iff_ne.2 h5
        have hX : X = (js, false) := by rw [← HX.out]; unfold tookJ; rw [if_neg hc0, if_neg hc1, if_pos (.inl h5)]
        go_wp2
        go_ret
        try rw [hX]
        first | exact ⟨L4, rfl, J6, k6, (by first | exact hLL | exact fun a b c h => hLL (a, b, c) h)⟩ | exact ⟨rfl, L4, J6, k6, (by first | exact hLL | exact fun a b c h => hLL (a, b, c) h)⟩
  · have h0' : (n == 0) = false := beq_eq_false_iff_ne.2 h0
    have hX : X = (js, false) := by rw [← HX.out]; unfold tookJ; rw [if_pos h0]
    go_wp2
    go_ret
    try rw [hX]
    first | exact ⟨L4, rfl, J6, k6, (by first | exact hLL | exact fun a b c h => hLL (a, b, c) h)⟩ | exact ⟨rfl, L4, J6, k6, (by first | exact hLL | exact fun a b c h => hLL (a, b, c) h)⟩
end Go.Proofs.Ytkikonknciffiaa
