/- wrote: the walk. -/
import Derived.Test.YtkikonknciffiaaHsMeet
namespace Go.Proofs.Ytkikonknciffiaa
open Go.RowKit
set_option linter.unusedVariables false
set_option linter.unusedSimpArgs false

/-- What wrote, took read: the entries, the place, the record. -/
structure WJ (gp ga ge g s d : Nat) (sta : Int) (sda kda dla : Nat) (ena : Bool) (ida na : Int) (dta : ByteArray) (era : Int) (st : Int) (sd kd dl : Nat) (en : Bool) (id n : Int) (dt : ByteArray) (er : Int) (r : Rc) (W : World) : Prop where
  e : EnBlk W ge st sd kd dl en id n dt er
  a : EnBlk W ga sta sda kda dla ena ida na dta era
  p : W.heap[gp]? = some (.cells #[.int .u8 (s : Int), .int .u8 (d : Int)] 62 (0, 0))
  r : RcBlk W g r
theorem WJ.cells {gp ga ge g s d : Nat} {sta : Int} {sda kda dla : Nat} {ena : Bool} {ida na : Int} {dta : ByteArray} {era : Int} {st : Int} {sd kd dl : Nat} {en : Bool} {id n : Int} {dt : ByteArray} {er : Int} {r : Rc} {W : World} (h : WJ gp ga ge g s d sta sda kda dla ena ida na dta era st sd kd dl en id n dt er r W) :
    W.cell? ⟨ge, 0, none⟩ = some (.int .i64 st) ∧ W.cell? ⟨ge, 1, none⟩ = some (.int .u8 (sd : Int)) ∧ W.cell? ⟨ge, 2, none⟩ = some (.int .u8 (kd : Int)) ∧ W.cell? ⟨ge, 3, none⟩ = some (.int .u8 (dl : Int)) ∧ W.cell? ⟨ge, 4, none⟩ = some (.bool en) ∧ W.cell? ⟨ge, 5, none⟩ = some (.int .i64 id) ∧ W.cell? ⟨ge, 6, none⟩ = some (.int .i64 n) ∧ W.cell? ⟨ge, 7, none⟩ = some (.string dt) ∧ W.cell? ⟨ge, 8, none⟩ = some (.int .i64 er) ∧ W.cell? ⟨ga, 6, none⟩ = some (.int .i64 na) ∧ W.cell? ⟨ga, 7, none⟩ = some (.string dta) ∧ W.cell? ⟨gp, 0, none⟩ = some (.int .u8 (s : Int)) ∧ W.cell? ⟨gp, 1, none⟩ = some (.int .u8 (d : Int)) ∧ W.cell? ⟨g, 54, none⟩ = some (.bool r.opened) ∧ W.cell? ⟨g, 55, none⟩ = some (.bool r.over) ∧ W.cell? ⟨g, 56, none⟩ = some (.bool r.readOver) ∧ W.cell? ⟨g, 57, none⟩ = some (.string r.wrote) ∧ W.cell? ⟨g, 58, none⟩ = some (.int .i64 r.read) := by
  obtain ⟨c0, c1, c2, c3, c4, c5, c6, c7, c8, _⟩ := en_cells h.e
  obtain ⟨a0, a1, a2, a3, a4, a5, a6, a7, a8, _⟩ := en_cells h.a
  obtain ⟨p0, p1⟩ := plc_cells h.p
  obtain ⟨r0, r1, r2, r3, r4, _⟩ := rc_fields h.r
  exact ⟨c0, c1, c2, c3, c4, c5, c6, c7, c8, a6, a7, p0, p1, r0, r1, r2, r3, r4⟩
theorem WJ.set {B gj gp ga ge g s d : Nat} {sta : Int} {sda kda dla : Nat} {ena : Bool} {ida na : Int} {dta : ByteArray} {era : Int} {st : Int} {sd kd dl : Nat} {en : Bool} {id n : Int} {dt : ByteArray} {er : Int} {r r' : Rc} {js : JS} {L : List (Nat × Nat × Nat)} {W W' : World} (h : WJ gp ga ge g s d sta sda kda dla ena ida na dta era st sd kd dl en id n dt er r W) (J : JAt B gj js L W) (hm : (s, d, g) ∈ L) (hr : RcBlk W' g r') (ho : ∀ j, j ≠ g → W'.heap[j]? = W.heap[j]?) : WJ gp ga ge g s d sta sda kda dla ena ida na dta era st sd kd dl en id n dt er r' W' :=
  ⟨(ho _ (J.ne_of h.e (by decide) (by decide) hm).symm).trans h.e, (ho _ (J.ne_of h.a (by decide) (by decide) hm).symm).trans h.a, (ho _ (J.ne_of h.p (by decide) (by decide) hm).symm).trans h.p, hr⟩
theorem upd_upd (js : JS) (s d : Nat) (r r' : Rc) : (js.upd s d r).upd s d r' = js.upd s d r' := by
  unfold JS.upd
  congr 1
  funext a b
  dsimp only
  split <;> rfl
/-- .. but for the record. -/
structure WE (gp ga ge s d : Nat) (sta : Int) (sda kda dla : Nat) (ena : Bool) (ida na : Int) (dta : ByteArray) (era : Int) (st : Int) (sd kd dl : Nat) (en : Bool) (id n : Int) (dt : ByteArray) (er : Int) (W : World) : Prop where
  e : EnBlk W ge st sd kd dl en id n dt er
  a : EnBlk W ga sta sda kda dla ena ida na dta era
  p : W.heap[gp]? = some (.cells #[.int .u8 (s : Int), .int .u8 (d : Int)] 62 (0, 0))
theorem WE.cells {gp ga ge s d : Nat} {sta : Int} {sda kda dla : Nat} {ena : Bool} {ida na : Int} {dta : ByteArray} {era : Int} {st : Int} {sd kd dl : Nat} {en : Bool} {id n : Int} {dt : ByteArray} {er : Int} {W : World} (h : WE gp ga ge s d sta sda kda dla ena ida na dta era st sd kd dl en id n dt er W) :
    W.cell? ⟨ge, 0, none⟩ = some (.int .i64 st) ∧ W.cell? ⟨ge, 1, none⟩ = some (.int .u8 (sd : Int)) ∧ W.cell? ⟨ge, 2, none⟩ = some (.int .u8 (kd : Int)) ∧ W.cell? ⟨ge, 3, none⟩ = some (.int .u8 (dl : Int)) ∧ W.cell? ⟨ge, 4, none⟩ = some (.bool en) ∧ W.cell? ⟨ge, 5, none⟩ = some (.int .i64 id) ∧ W.cell? ⟨ge, 6, none⟩ = some (.int .i64 n) ∧ W.cell? ⟨ge, 7, none⟩ = some (.string dt) ∧ W.cell? ⟨ge, 8, none⟩ = some (.int .i64 er) ∧ W.cell? ⟨ga, 6, none⟩ = some (.int .i64 na) ∧ W.cell? ⟨ga, 7, none⟩ = some (.string dta) ∧ W.cell? ⟨gp, 0, none⟩ = some (.int .u8 (s : Int)) ∧ W.cell? ⟨gp, 1, none⟩ = some (.int .u8 (d : Int)) := by
  obtain ⟨c0, c1, c2, c3, c4, c5, c6, c7, c8, _⟩ := en_cells h.e
  obtain ⟨a0, a1, a2, a3, a4, a5, a6, a7, a8, _⟩ := en_cells h.a
  obtain ⟨p0, p1⟩ := plc_cells h.p
  exact ⟨c0, c1, c2, c3, c4, c5, c6, c7, c8, a6, a7, p0, p1⟩
theorem WE.set {B gj gp ga ge g s d : Nat} {sta : Int} {sda kda dla : Nat} {ena : Bool} {ida na : Int} {dta : ByteArray} {era : Int} {st : Int} {sd kd dl : Nat} {en : Bool} {id n : Int} {dt : ByteArray} {er : Int} {js : JS} {L : List (Nat × Nat × Nat)} {W W' : World} (h : WE gp ga ge s d sta sda kda dla ena ida na dta era st sd kd dl en id n dt er W) (J : JAt B gj js L W) (hm : (s, d, g) ∈ L) (ho : ∀ j, j ≠ g → W'.heap[j]? = W.heap[j]?) : WE gp ga ge s d sta sda kda dla ena ida na dta era st sd kd dl en id n dt er W' :=
  ⟨(ho _ (J.ne_of h.e (by decide) (by decide) hm).symm).trans h.e, (ho _ (J.ne_of h.a (by decide) (by decide) hm).symm).trans h.a, (ho _ (J.ne_of h.p (by decide) (by decide) hm).symm).trans h.p⟩
set_option maxRecDepth 100000 in
set_option maxHeartbeats 4000000 in
theorem wrote_any (B gj : Nat) (js : JS) (L : List (Nat × Nat × Nat)) (s d : Nat) (sta : Int) (sda kda dla : Nat) (ena : Bool) (ida na : Int) (dta : ByteArray) (era : Int) (st : Int) (sd kd dl : Nat) (en : Bool) (id n : Int) (dt : ByteArray) (er : Int) (w : World) (hs : s ≤ 1) (hdta : dta.size ≤ 100000) (hwr : (js.recs s d).wrote.size ≤ 100000) (h : JAt B gj js L w) :
    Calls Try.prog 37 #[.pointer (some ⟨gj, 0, none⟩), .agg #[.int .u8 (s : Int), .int .u8 (d : Int)], .agg #[.int .i64 sta, .int .u8 (sda : Int), .int .u8 (kda : Int), .int .u8 (dla : Int), .bool ena, .int .i64 ida, .int .i64 na, .string dta, .int .i64 era], .agg #[.int .i64 st, .int .u8 (sd : Int), .int .u8 (kd : Int), .int .u8 (dl : Int), .bool en, .int .i64 id, .int .i64 n, .string dt, .int .i64 er]] w fun e w' => ∃ L', e = .returned (.bool (wroteJ js s d ⟨sta, sda, kda, dla, ena, ida, na, dta, era⟩ ⟨st, sd, kd, dl, en, id, n, dt, er⟩).2) ∧ JAt B gj (wroteJ js s d ⟨sta, sda, kda, dla, ena, ida, na, dta, era⟩ ⟨st, sd, kd, dl, en, id, n, dt, er⟩).1 L' w' ∧ KJ B w w' ∧ ∀ x ∈ L, x ∈ L' := by
  obtain ⟨J1, k1, P1, A1, E1⟩ := box3 h s d sta sda kda dla ena ida na dta era st sd kd dl en id n dt er
  have hB : B ≤ w.heap.size := Nat.le_trans h.ge (Nat.le_of_lt h.lt)
  clear h
  obtain ⟨p0, p1⟩ := plc_cells P1
  obtain ⟨c0, c1, c2, c3, c4, c5, c6, c7, c8, _⟩ := en_cells E1
  obtain ⟨X, hX⟩ : ∃ X, wroteJ js s d ⟨sta, sda, kda, dla, ena, ida, na, dta, era⟩ ⟨st, sd, kd, dl, en, id, n, dt, er⟩ = X := ⟨_, rfl⟩
  rw [hX]
  have HX := hide hX
  clear hX
  go_enter Try.func37, Try.ntmps37
  go_upto_region 1 with (fail)
  generalize ((w.alloc (.cells #[.int .u8 (s : Int), .int .u8 (d : Int)] 62)).alloc (.cells #[.int .i64 sta, .int .u8 (sda : Int), .int .u8 (kda : Int), .int .u8 (dla : Int), .bool ena, .int .i64 ida, .int .i64 na, .string dta, .int .i64 era] 38)).alloc (.cells #[.int .i64 st, .int .u8 (sd : Int), .int .u8 (kd : Int), .int .u8 (dl : Int), .bool en, .int .i64 id, .int .i64 n, .string dt, .int .i64 er] 38) = w1 at *
  go_wp2_with fail
  refine (record_any B gj js L s d w1 J1).mono ?_
  rintro e w3 ⟨g, L3, rfl, J3, hm3, hL3, k3⟩
  have hS0 : WJ w.heap.size (w.heap.size + 1) (w.heap.size + 2) g s d sta sda kda dla ena ida na dta era st sd kd dl en id n dt er (js.recs s d) w3 := ⟨k3.keep _ _ _ _ E1 (by decide) (by decide), k3.keep _ _ _ _ A1 (by decide) (by decide), k3.keep _ _ _ _ P1 (by decide) (by decide), (J3.recs.blk _ hm3).2⟩
  replace k3 := k1.trans k3
  have hg := (J3.recs.blk _ hm3).1
  dsimp only at hg
  clear J1 k1 E1 P1 A1 c0 c1 c2 c3 c4 c5 c6 c7 c8 p0 p1
  by_cases h1 : dt = ⟨#[]⟩
  · subst h1
    by_cases h2 : n < 0
    · have hX : X = (js, false) := by rw [← HX.out]; unfold wroteJ; rw [if_pos (.inr (.inl h2))]
      go_upto_region 2 with (fail)
      refine wp_region_held (S := fun W => WJ w.heap.size (w.heap.size + 1) (w.heap.size + 2) g s d sta sda kda dla ena ida na dta era st sd kd dl en id n ⟨#[]⟩ er (js.recs s d) W) (by kernel_rfl) ?_
      change wpAnyH _ _ _ _ _ _ _ _ (World.drew _)
      have hS : WJ w.heap.size (w.heap.size + 1) (w.heap.size + 2) g s d sta sda kda dla ena ida na dta era st sd kd dl en id n ⟨#[]⟩ er (js.recs s d) w3.drew := ⟨hS0.e, hS0.a, hS0.p, hS0.r⟩
      have J4 := J3.drew
      have k4 : KJ B w w3.drew := ⟨below_drewN k3.below 1, k3.keep⟩
      clear J3 k3 hS0
      generalize w3.drew = w4 at *
      refine take_atH 0 14 hS rfl rfl (by kernel_rfl) (by kernel_rfl) (by kernel_rfl) (fun _ _ _ h => h) rfl (fun wq hq => by go_simp; first | done | with_reducible rfl) ?_
      simp only [Act.put, List.setIfInBounds_toArray, List.set_cons_zero, List.set_cons_succ]
      refine take_atH 1 15 hS rfl rfl (by kernel_rfl) (by kernel_rfl) (by kernel_rfl) (fun _ _ _ h => h) rfl (fun wq hq => by obtain ⟨c0, c1, c2, c3, c4, c5, c6, c7, c8, a6, a7, p0, p1, r0, r1, r2, r3, r4⟩ := hq.cells; go_simp; first | done | with_reducible rfl) ?_
      simp only [Act.put, List.setIfInBounds_toArray, List.set_cons_zero, List.set_cons_succ]
      refine take_atH 2 16 hS rfl rfl (by kernel_rfl) (by kernel_rfl) (by kernel_rfl) (fun _ _ _ h => h) rfl (fun wq hq => by go_simp; first | done | with_reducible rfl) ?_
      simp only [Act.put, List.setIfInBounds_toArray, List.set_cons_zero, List.set_cons_succ]
      refine take_atH 3 17 hS rfl rfl (by kernel_rfl) (by kernel_rfl) (by kernel_rfl) (fun _ _ _ h => h) rfl (fun wq hq => by go_simp; first | done | with_reducible rfl) ?_
      simp only [Act.put, List.setIfInBounds_toArray, List.set_cons_zero, List.set_cons_succ]
      refine take_atH 4 18 hS rfl rfl (by kernel_rfl) (by kernel_rfl) (by kernel_rfl) (fun _ _ _ h => h) rfl (fun wq hq => by go_simp; first | done | with_reducible rfl) ?_
      simp only [Act.put, List.setIfInBounds_toArray, List.set_cons_zero, List.set_cons_succ]
      refine take_atH 5 19 hS rfl rfl (by kernel_rfl) (by kernel_rfl) (by kernel_rfl) (fun _ _ _ h => h) rfl (fun wq hq => by obtain ⟨c0, c1, c2, c3, c4, c5, c6, c7, c8, a6, a7, p0, p1, r0, r1, r2, r3, r4⟩ := hq.cells; go_simp; first | done | with_reducible rfl) ?_
      simp only [Act.put, List.setIfInBounds_toArray, List.set_cons_zero, List.set_cons_succ]
      refine take_atH 6 20 hS rfl rfl (by kernel_rfl) (by kernel_rfl) (by kernel_rfl) (fun _ _ _ h => h) rfl (fun wq hq => by go_simp; first | done | with_reducible rfl) ?_
      simp only [Act.put, List.setIfInBounds_toArray, List.set_cons_zero, List.set_cons_succ]
      refine take_atH 7 21 hS rfl rfl (by kernel_rfl) (by kernel_rfl) (by kernel_rfl) (fun _ _ _ h => h) rfl (fun wq hq => by go_simp; first | done | with_reducible rfl) ?_
      simp only [Act.put, List.setIfInBounds_toArray, List.set_cons_zero, List.set_cons_succ]
      refine take_atH 8 22 hS rfl rfl (by kernel_rfl) (by kernel_rfl) (by kernel_rfl) (fun _ _ _ h => h) rfl (fun wq hq => by go_simp; first | done | with_reducible rfl) ?_
      simp only [Act.put, List.setIfInBounds_toArray, List.set_cons_zero, List.set_cons_succ]
      refine skip_atH 9 23 hS rfl rfl (by kernel_rfl) (by kernel_rfl) (by kernel_rfl) (fun _ _ _ h => h) rfl ?_
      simp only [Act.put, List.setIfInBounds_toArray, List.set_cons_zero, List.set_cons_succ]
      refine skip_atH 10 24 hS rfl rfl (by kernel_rfl) (by kernel_rfl) (by kernel_rfl) (fun _ _ _ h => h) rfl ?_
      simp only [Act.put, List.setIfInBounds_toArray, List.set_cons_zero, List.set_cons_succ]
      refine skip_atH 11 25 hS rfl rfl (by kernel_rfl) (by kernel_rfl) (by kernel_rfl) (fun _ _ _ h => h) rfl ?_
      simp only [Act.put, List.setIfInBounds_toArray, List.set_cons_zero, List.set_cons_succ]
      refine skip_atH 12 26 hS rfl rfl (by kernel_rfl) (by kernel_rfl) (by kernel_rfl) (fun _ _ _ h => h) rfl ?_
      simp only [Act.put, List.setIfInBounds_toArray, List.set_cons_zero, List.set_cons_succ]
      refine skip_atH 13 27 hS rfl rfl (by kernel_rfl) (by kernel_rfl) (by kernel_rfl) (fun _ _ _ h => h) rfl ?_
      simp only [Act.put, List.setIfInBounds_toArray, List.set_cons_zero, List.set_cons_succ]
      refine skip_atH 14 28 hS rfl rfl (by kernel_rfl) (by kernel_rfl) (by kernel_rfl) (fun _ _ _ h => h) rfl ?_
      simp only [Act.put, List.setIfInBounds_toArray, List.set_cons_zero, List.set_cons_succ]
      refine take_atH 15 29 hS rfl rfl (by kernel_rfl) (by kernel_rfl) (by kernel_rfl) (fun _ _ _ h => h) rfl (fun wq hq => by go_simp; first | done | with_reducible rfl) ?_
      simp only [Act.put, List.setIfInBounds_toArray, List.set_cons_zero, List.set_cons_succ]
      refine take_atH 16 30 hS rfl rfl (by kernel_rfl) (by kernel_rfl) (by kernel_rfl) (fun _ _ _ h => h) rfl (fun wq hq => by go_simp; first | done | with_reducible rfl) ?_
      simp only [Act.put, List.setIfInBounds_toArray, List.set_cons_zero, List.set_cons_succ]
      refine skip_atH 17 31 hS rfl rfl (by kernel_rfl) (by kernel_rfl) (by kernel_rfl) (fun _ _ _ h => h) rfl ?_
      simp only [Act.put, List.setIfInBounds_toArray, List.set_cons_zero, List.set_cons_succ]
      refine skip_atH 18 32 hS rfl rfl (by kernel_rfl) (by kernel_rfl) (by kernel_rfl) (fun _ _ _ h => h) rfl ?_
      simp only [Act.put, List.setIfInBounds_toArray, List.set_cons_zero, List.set_cons_succ]
      refine skip_atH 19 33 hS rfl rfl (by kernel_rfl) (by kernel_rfl) (by kernel_rfl) (fun _ _ _ h => h) rfl ?_
      simp only [Act.put, List.setIfInBounds_toArray, List.set_cons_zero, List.set_cons_succ]
      refine skip_atH 20 34 hS rfl rfl (by kernel_rfl) (by kernel_rfl) (by kernel_rfl) (fun _ _ _ h => h) rfl ?_
      simp only [Act.put, List.setIfInBounds_toArray, List.set_cons_zero, List.set_cons_succ]
      refine skip_atH 21 35 hS rfl rfl (by kernel_rfl) (by kernel_rfl) (by kernel_rfl) (fun _ _ _ h => h) rfl ?_
      simp only [Act.put, List.setIfInBounds_toArray, List.set_cons_zero, List.set_cons_succ]
      refine skip_atH 22 36 hS rfl rfl (by kernel_rfl) (by kernel_rfl) (by kernel_rfl) (fun _ _ _ h => h) rfl ?_
      simp only [Act.put, List.setIfInBounds_toArray, List.set_cons_zero, List.set_cons_succ]
      refine skip_atH 23 37 hS rfl rfl (by kernel_rfl) (by kernel_rfl) (by kernel_rfl) (fun _ _ _ h => h) rfl ?_
      simp only [Act.put, List.setIfInBounds_toArray, List.set_cons_zero, List.set_cons_succ]
      refine skip_atH 24 38 hS rfl rfl (by kernel_rfl) (by kernel_rfl) (by kernel_rfl) (fun _ _ _ h => h) rfl ?_
      simp only [Act.put, List.setIfInBounds_toArray, List.set_cons_zero, List.set_cons_succ]
      refine skip_atH 25 39 hS rfl rfl (by kernel_rfl) (by kernel_rfl) (by kernel_rfl) (fun _ _ _ h => h) rfl ?_
      simp only [Act.put, List.setIfInBounds_toArray, List.set_cons_zero, List.set_cons_succ]
      refine skip_atH 26 40 hS rfl rfl (by kernel_rfl) (by kernel_rfl) (by kernel_rfl) (fun _ _ _ h => h) rfl ?_
      simp only [Act.put, List.setIfInBounds_toArray, List.set_cons_zero, List.set_cons_succ]
      refine skip_atH 27 41 hS rfl rfl (by kernel_rfl) (by kernel_rfl) (by kernel_rfl) (fun _ _ _ h => h) rfl ?_
      simp only [Act.put, List.setIfInBounds_toArray, List.set_cons_zero, List.set_cons_succ]
      refine skip_atH 28 42 hS rfl rfl (by kernel_rfl) (by kernel_rfl) (by kernel_rfl) (fun _ _ _ h => h) rfl ?_
      simp only [Act.put, List.setIfInBounds_toArray, List.set_cons_zero, List.set_cons_succ]
      refine skip_atH 29 43 hS rfl rfl (by kernel_rfl) (by kernel_rfl) (by kernel_rfl) (fun _ _ _ h => h) rfl ?_
      simp only [Act.put, List.setIfInBounds_toArray, List.set_cons_zero, List.set_cons_succ]
      refine skip_atH 30 44 hS rfl rfl (by kernel_rfl) (by kernel_rfl) (by kernel_rfl) (fun _ _ _ h => h) rfl ?_
      simp only [Act.put, List.setIfInBounds_toArray, List.set_cons_zero, List.set_cons_succ]
      refine skip_atH 31 45 hS rfl rfl (by kernel_rfl) (by kernel_rfl) (by kernel_rfl) (fun _ _ _ h => h) rfl ?_
      simp only [Act.put, List.setIfInBounds_toArray, List.set_cons_zero, List.set_cons_succ]
      refine take_atH 32 46 hS rfl rfl (by kernel_rfl) (by kernel_rfl) (by kernel_rfl) (fun _ _ _ h => h) rfl (fun wq hq => by go_simp; first | done | with_reducible rfl) ?_
      simp only [Act.put, List.setIfInBounds_toArray, List.set_cons_zero, List.set_cons_succ]
      refine take_atH 33 13 hS rfl rfl (by kernel_rfl) (by kernel_rfl) (by kernel_rfl) (fun _ _ _ h => h) rfl (fun wq hq => by go_simp; first | done | with_reducible rfl) ?_
      simp only [Act.put, List.setIfInBounds_toArray, List.set_cons_zero, List.set_cons_succ]
      refine wpAnyH_done (by kernel_rfl) ?_ _
      go_wp2
      go_ret
      rw [hX]
      first | exact ⟨L3, rfl, J4, k4, (by first | exact hL3 | exact fun a b c h => hL3 (a, b, c) h)⟩ | exact ⟨rfl, L3, J4, k4, (by first | exact hL3 | exact fun a b c h => hL3 (a, b, c) h)⟩
    have h2' : ¬ n < 0 := h2
    obtain ⟨N, rfl⟩ := Int.eq_ofNat_of_zero_le (Int.not_lt.1 h2)
    by_cases h3 : (dta.size : Int) < (N : Int)
    · have hX : X = (js, false) := by rw [← HX.out]; unfold wroteJ; rw [if_pos (.inr (.inr (.inl h3)))]
      go_upto_region 2 with (fail)
      refine wp_region_held (S := fun W => WJ w.heap.size (w.heap.size + 1) (w.heap.size + 2) g s d sta sda kda dla ena ida na dta era st sd kd dl en id (N : Int) ⟨#[]⟩ er (js.recs s d) W) (by kernel_rfl) ?_
      change wpAnyH _ _ _ _ _ _ _ _ (World.drew _)
      have hS : WJ w.heap.size (w.heap.size + 1) (w.heap.size + 2) g s d sta sda kda dla ena ida na dta era st sd kd dl en id (N : Int) ⟨#[]⟩ er (js.recs s d) w3.drew := ⟨hS0.e, hS0.a, hS0.p, hS0.r⟩
      have J4 := J3.drew
      have k4 : KJ B w w3.drew := ⟨below_drewN k3.below 1, k3.keep⟩
      clear J3 k3 hS0
      generalize w3.drew = w4 at *
      refine take_atH 0 14 hS rfl rfl (by kernel_rfl) (by kernel_rfl) (by kernel_rfl) (fun _ _ _ h => h) rfl (fun wq hq => by go_simp; first | done | with_reducible rfl) ?_
      simp only [Act.put, List.setIfInBounds_toArray, List.set_cons_zero, List.set_cons_succ]
      refine take_atH 1 15 hS rfl rfl (by kernel_rfl) (by kernel_rfl) (by kernel_rfl) (fun _ _ _ h => h) rfl (fun wq hq => by obtain ⟨c0, c1, c2, c3, c4, c5, c6, c7, c8, a6, a7, p0, p1, r0, r1, r2, r3, r4⟩ := hq.cells; go_simp; first | done | with_reducible rfl) ?_
      simp only [Act.put, List.setIfInBounds_toArray, List.set_cons_zero, List.set_cons_succ]
      refine take_atH 2 16 hS rfl rfl (by kernel_rfl) (by kernel_rfl) (by kernel_rfl) (fun _ _ _ h => h) rfl (fun wq hq => by go_simp; first | done | with_reducible rfl) ?_
      simp only [Act.put, List.setIfInBounds_toArray, List.set_cons_zero, List.set_cons_succ]
      refine take_atH 3 17 hS rfl rfl (by kernel_rfl) (by kernel_rfl) (by kernel_rfl) (fun _ _ _ h => h) rfl (fun wq hq => by go_simp; first | done | with_reducible rfl) ?_
      simp only [Act.put, List.setIfInBounds_toArray, List.set_cons_zero, List.set_cons_succ]
      refine take_atH 4 18 hS rfl rfl (by kernel_rfl) (by kernel_rfl) (by kernel_rfl) (fun _ _ _ h => h) rfl (fun wq hq => by go_simp; first | done | with_reducible rfl) ?_
      simp only [Act.put, List.setIfInBounds_toArray, List.set_cons_zero, List.set_cons_succ]
      refine take_atH 5 19 hS rfl rfl (by kernel_rfl) (by kernel_rfl) (by kernel_rfl) (fun _ _ _ h => h) rfl (fun wq hq => by obtain ⟨c0, c1, c2, c3, c4, c5, c6, c7, c8, a6, a7, p0, p1, r0, r1, r2, r3, r4⟩ := hq.cells; go_simp; first | done | with_reducible rfl) ?_
      simp only [Act.put, List.setIfInBounds_toArray, List.set_cons_zero, List.set_cons_succ]
      refine take_atH 6 20 hS rfl rfl (by kernel_rfl) (by kernel_rfl) (by kernel_rfl) (fun _ _ _ h => h) rfl (fun wq hq => by go_simp; first | done | with_reducible rfl) ?_
      simp only [Act.put, List.setIfInBounds_toArray, List.set_cons_zero, List.set_cons_succ]
      refine take_atH 7 21 hS rfl rfl (by kernel_rfl) (by kernel_rfl) (by kernel_rfl) (fun _ _ _ h => h) rfl (fun wq hq => by go_simp; first | done | with_reducible rfl) ?_
      simp only [Act.put, List.setIfInBounds_toArray, List.set_cons_zero, List.set_cons_succ]
      refine take_atH 8 22 hS rfl rfl (by kernel_rfl) (by kernel_rfl) (by kernel_rfl) (fun _ _ _ h => h) rfl (fun wq hq => by go_simp; first | done | with_reducible rfl) ?_
      simp only [Act.put, List.setIfInBounds_toArray, List.set_cons_zero, List.set_cons_succ]
      refine take_atH 9 23 hS rfl rfl (by kernel_rfl) (by kernel_rfl) (by kernel_rfl) (fun _ _ _ h => h) rfl (fun wq hq => by go_simp; first | done | with_reducible rfl) ?_
      simp only [Act.put, List.setIfInBounds_toArray, List.set_cons_zero, List.set_cons_succ]
      refine take_atH 10 24 hS rfl rfl (by kernel_rfl) (by kernel_rfl) (by kernel_rfl) (fun _ _ _ h => h) rfl (fun wq hq => by obtain ⟨c0, c1, c2, c3, c4, c5, c6, c7, c8, a6, a7, p0, p1, r0, r1, r2, r3, r4⟩ := hq.cells; go_simp; first | done | with_reducible rfl) ?_
      simp only [Act.put, List.setIfInBounds_toArray, List.set_cons_zero, List.set_cons_succ]
      refine take_atH 11 25 hS rfl rfl (by kernel_rfl) (by kernel_rfl) (by kernel_rfl) (fun _ _ _ h => h) rfl (fun wq hq => by go_simp; first | done | with_reducible rfl) ?_
      simp only [Act.put, List.setIfInBounds_toArray, List.set_cons_zero, List.set_cons_succ]
      refine take_atH 12 26 hS rfl rfl (by kernel_rfl) (by kernel_rfl) (by kernel_rfl) (fun _ _ _ h => h) rfl (fun wq hq => by obtain ⟨c0, c1, c2, c3, c4, c5, c6, c7, c8, a6, a7, p0, p1, r0, r1, r2, r3, r4⟩ := hq.cells; go_simp; first | done | with_reducible rfl) ?_
      simp only [Act.put, List.setIfInBounds_toArray, List.set_cons_zero, List.set_cons_succ]
      refine take_atH 13 27 hS rfl rfl (by kernel_rfl) (by kernel_rfl) (by kernel_rfl) (fun _ _ _ h => h) rfl (fun wq hq => by go_simp; first | done | with_reducible rfl) ?_
      simp only [Act.put, List.setIfInBounds_toArray, List.set_cons_zero, List.set_cons_succ]
      refine take_atH 14 28 hS rfl rfl (by kernel_rfl) (by kernel_rfl) (by kernel_rfl) (fun _ _ _ h => h) rfl (fun wq hq => by go_simp; first | done | with_reducible rfl) ?_
      simp only [Act.put, List.setIfInBounds_toArray, List.set_cons_zero, List.set_cons_succ]
      refine take_atH 15 29 hS rfl rfl (by kernel_rfl) (by kernel_rfl) (by kernel_rfl) (fun _ _ _ h => h) rfl (fun wq hq => by go_simp; first | done | with_reducible rfl) ?_
      simp only [Act.put, List.setIfInBounds_toArray, List.set_cons_zero, List.set_cons_succ]
      refine take_atH 16 30 hS rfl rfl (by kernel_rfl) (by kernel_rfl) (by kernel_rfl) (fun _ _ _ h => h) rfl (fun wq hq => by go_simp; first | done | with_reducible rfl) ?_
      simp only [Act.put, List.setIfInBounds_toArray, List.set_cons_zero, List.set_cons_succ]
      refine skip_atH 17 31 hS rfl rfl (by kernel_rfl) (by kernel_rfl) (by kernel_rfl) (fun _ _ _ h => h) rfl ?_
      simp only [Act.put, List.setIfInBounds_toArray, List.set_cons_zero, List.set_cons_succ]
      refine skip_atH 18 32 hS rfl rfl (by kernel_rfl) (by kernel_rfl) (by kernel_rfl) (fun _ _ _ h => h) rfl ?_
      simp only [Act.put, List.setIfInBounds_toArray, List.set_cons_zero, List.set_cons_succ]
      refine skip_atH 19 33 hS rfl rfl (by kernel_rfl) (by kernel_rfl) (by kernel_rfl) (fun _ _ _ h => h) rfl ?_
      simp only [Act.put, List.setIfInBounds_toArray, List.set_cons_zero, List.set_cons_succ]
      refine skip_atH 20 34 hS rfl rfl (by kernel_rfl) (by kernel_rfl) (by kernel_rfl) (fun _ _ _ h => h) rfl ?_
      simp only [Act.put, List.setIfInBounds_toArray, List.set_cons_zero, List.set_cons_succ]
      refine skip_atH 21 35 hS rfl rfl (by kernel_rfl) (by kernel_rfl) (by kernel_rfl) (fun _ _ _ h => h) rfl ?_
      simp only [Act.put, List.setIfInBounds_toArray, List.set_cons_zero, List.set_cons_succ]
      refine skip_atH 22 36 hS rfl rfl (by kernel_rfl) (by kernel_rfl) (by kernel_rfl) (fun _ _ _ h => h) rfl ?_
      simp only [Act.put, List.setIfInBounds_toArray, List.set_cons_zero, List.set_cons_succ]
      refine skip_atH 23 37 hS rfl rfl (by kernel_rfl) (by kernel_rfl) (by kernel_rfl) (fun _ _ _ h => h) rfl ?_
      simp only [Act.put, List.setIfInBounds_toArray, List.set_cons_zero, List.set_cons_succ]
      refine skip_atH 24 38 hS rfl rfl (by kernel_rfl) (by kernel_rfl) (by kernel_rfl) (fun _ _ _ h => h) rfl ?_
      simp only [Act.put, List.setIfInBounds_toArray, List.set_cons_zero, List.set_cons_succ]
      refine skip_atH 25 39 hS rfl rfl (by kernel_rfl) (by kernel_rfl) (by kernel_rfl) (fun _ _ _ h => h) rfl ?_
      simp only [Act.put, List.setIfInBounds_toArray, List.set_cons_zero, List.set_cons_succ]
      refine skip_atH 26 40 hS rfl rfl (by kernel_rfl) (by kernel_rfl) (by kernel_rfl) (fun _ _ _ h => h) rfl ?_
      simp only [Act.put, List.setIfInBounds_toArray, List.set_cons_zero, List.set_cons_succ]
      refine skip_atH 27 41 hS rfl rfl (by kernel_rfl) (by kernel_rfl) (by kernel_rfl) (fun _ _ _ h => h) rfl ?_
      simp only [Act.put, List.setIfInBounds_toArray, List.set_cons_zero, List.set_cons_succ]
      refine skip_atH 28 42 hS rfl rfl (by kernel_rfl) (by kernel_rfl) (by kernel_rfl) (fun _ _ _ h => h) rfl ?_
      simp only [Act.put, List.setIfInBounds_toArray, List.set_cons_zero, List.set_cons_succ]
      refine skip_atH 29 43 hS rfl rfl (by kernel_rfl) (by kernel_rfl) (by kernel_rfl) (fun _ _ _ h => h) rfl ?_
      simp only [Act.put, List.setIfInBounds_toArray, List.set_cons_zero, List.set_cons_succ]
      refine skip_atH 30 44 hS rfl rfl (by kernel_rfl) (by kernel_rfl) (by kernel_rfl) (fun _ _ _ h => h) rfl ?_
      simp only [Act.put, List.setIfInBounds_toArray, List.set_cons_zero, List.set_cons_succ]
      refine skip_atH 31 45 hS rfl rfl (by kernel_rfl) (by kernel_rfl) (by kernel_rfl) (fun _ _ _ h => h) rfl ?_
      simp only [Act.put, List.setIfInBounds_toArray, List.set_cons_zero, List.set_cons_succ]
      refine take_atH 32 46 hS rfl rfl (by kernel_rfl) (by kernel_rfl) (by kernel_rfl) (fun _ _ _ h => h) rfl (fun wq hq => by go_simp; first | done | with_reducible rfl) ?_
      simp only [Act.put, List.setIfInBounds_toArray, List.set_cons_zero, List.set_cons_succ]
      refine take_atH 33 13 hS rfl rfl (by kernel_rfl) (by kernel_rfl) (by kernel_rfl) (fun _ _ _ h => h) rfl (fun wq hq => by go_simp; first | done | with_reducible rfl) ?_
      simp only [Act.put, List.setIfInBounds_toArray, List.set_cons_zero, List.set_cons_succ]
      refine wpAnyH_done (by kernel_rfl) ?_ _
      go_wp2
      go_ret
      rw [hX]
      first | exact ⟨L3, rfl, J4, k4, (by first | exact hL3 | exact fun a b c h => hL3 (a, b, c) h)⟩ | exact ⟨rfl, L3, J4, k4, (by first | exact hL3 | exact fun a b c h => hL3 (a, b, c) h)⟩
    have h3n : N ≤ dta.size := by omega
    have h3m : ¬ dta.size < N := by omega
    have hw : IntKind.i64.wrap (((js.recs s d).wrote.size : Int) + (N : Int)) = ((js.recs s d).wrote.size : Int) + (N : Int) := IntWalk.i64_in _ (by omega)
    go_upto_region 2 with (fail)
    refine wp_region_held (S := fun W => WJ w.heap.size (w.heap.size + 1) (w.heap.size + 2) g s d sta sda kda dla ena ida na dta era st sd kd dl en id (N : Int) ⟨#[]⟩ er (js.recs s d) W) (by kernel_rfl) ?_
    change wpAnyH _ _ _ _ _ _ _ _ (World.drew _)
    have hS : WJ w.heap.size (w.heap.size + 1) (w.heap.size + 2) g s d sta sda kda dla ena ida na dta era st sd kd dl en id (N : Int) ⟨#[]⟩ er (js.recs s d) w3.drew := ⟨hS0.e, hS0.a, hS0.p, hS0.r⟩
    have J4 := J3.drew
    have k4 : KJ B w w3.drew := ⟨below_drewN k3.below 1, k3.keep⟩
    clear J3 k3 hS0
    generalize w3.drew = w4 at *
    refine take_atH 0 14 hS rfl rfl (by kernel_rfl) (by kernel_rfl) (by kernel_rfl) (fun _ _ _ h => h) rfl (fun wq hq => by go_simp; first | done | with_reducible rfl) ?_
    simp only [Act.put, List.setIfInBounds_toArray, List.set_cons_zero, List.set_cons_succ]
    refine take_atH 1 15 hS rfl rfl (by kernel_rfl) (by kernel_rfl) (by kernel_rfl) (fun _ _ _ h => h) rfl (fun wq hq => by obtain ⟨c0, c1, c2, c3, c4, c5, c6, c7, c8, a6, a7, p0, p1, r0, r1, r2, r3, r4⟩ := hq.cells; go_simp; first | done | with_reducible rfl) ?_
    simp only [Act.put, List.setIfInBounds_toArray, List.set_cons_zero, List.set_cons_succ]
    refine take_atH 2 16 hS rfl rfl (by kernel_rfl) (by kernel_rfl) (by kernel_rfl) (fun _ _ _ h => h) rfl (fun wq hq => by go_simp; first | done | with_reducible rfl) ?_
    simp only [Act.put, List.setIfInBounds_toArray, List.set_cons_zero, List.set_cons_succ]
    refine take_atH 3 17 hS rfl rfl (by kernel_rfl) (by kernel_rfl) (by kernel_rfl) (fun _ _ _ h => h) rfl (fun wq hq => by go_simp; first | done | with_reducible rfl) ?_
    simp only [Act.put, List.setIfInBounds_toArray, List.set_cons_zero, List.set_cons_succ]
    refine take_atH 4 18 hS rfl rfl (by kernel_rfl) (by kernel_rfl) (by kernel_rfl) (fun _ _ _ h => h) rfl (fun wq hq => by go_simp; first | done | with_reducible rfl) ?_
    simp only [Act.put, List.setIfInBounds_toArray, List.set_cons_zero, List.set_cons_succ]
    refine take_atH 5 19 hS rfl rfl (by kernel_rfl) (by kernel_rfl) (by kernel_rfl) (fun _ _ _ h => h) rfl (fun wq hq => by obtain ⟨c0, c1, c2, c3, c4, c5, c6, c7, c8, a6, a7, p0, p1, r0, r1, r2, r3, r4⟩ := hq.cells; go_simp; first | done | with_reducible rfl) ?_
    simp only [Act.put, List.setIfInBounds_toArray, List.set_cons_zero, List.set_cons_succ]
    refine take_atH 6 20 hS rfl rfl (by kernel_rfl) (by kernel_rfl) (by kernel_rfl) (fun _ _ _ h => h) rfl (fun wq hq => by go_simp; first | done | with_reducible rfl) ?_
    simp only [Act.put, List.setIfInBounds_toArray, List.set_cons_zero, List.set_cons_succ]
    refine take_atH 7 21 hS rfl rfl (by kernel_rfl) (by kernel_rfl) (by kernel_rfl) (fun _ _ _ h => h) rfl (fun wq hq => by go_simp; first | done | with_reducible rfl) ?_
    simp only [Act.put, List.setIfInBounds_toArray, List.set_cons_zero, List.set_cons_succ]
    refine take_atH 8 22 hS rfl rfl (by kernel_rfl) (by kernel_rfl) (by kernel_rfl) (fun _ _ _ h => h) rfl (fun wq hq => by go_simp; first | done | with_reducible rfl) ?_
    simp only [Act.put, List.setIfInBounds_toArray, List.set_cons_zero, List.set_cons_succ]
    refine take_atH 9 23 hS rfl rfl (by kernel_rfl) (by kernel_rfl) (by kernel_rfl) (fun _ _ _ h => h) rfl (fun wq hq => by go_simp; first | done | with_reducible rfl) ?_
    simp only [Act.put, List.setIfInBounds_toArray, List.set_cons_zero, List.set_cons_succ]
    refine take_atH 10 24 hS rfl rfl (by kernel_rfl) (by kernel_rfl) (by kernel_rfl) (fun _ _ _ h => h) rfl (fun wq hq => by obtain ⟨c0, c1, c2, c3, c4, c5, c6, c7, c8, a6, a7, p0, p1, r0, r1, r2, r3, r4⟩ := hq.cells; go_simp; first | done | with_reducible rfl) ?_
    simp only [Act.put, List.setIfInBounds_toArray, List.set_cons_zero, List.set_cons_succ]
    refine take_atH 11 25 hS rfl rfl (by kernel_rfl) (by kernel_rfl) (by kernel_rfl) (fun _ _ _ h => h) rfl (fun wq hq => by go_simp; first | done | with_reducible rfl) ?_
    simp only [Act.put, List.setIfInBounds_toArray, List.set_cons_zero, List.set_cons_succ]
    refine take_atH 12 26 hS rfl rfl (by kernel_rfl) (by kernel_rfl) (by kernel_rfl) (fun _ _ _ h => h) rfl (fun wq hq => by obtain ⟨c0, c1, c2, c3, c4, c5, c6, c7, c8, a6, a7, p0, p1, r0, r1, r2, r3, r4⟩ := hq.cells; go_simp; first | done | with_reducible rfl) ?_
    simp only [Act.put, List.setIfInBounds_toArray, List.set_cons_zero, List.set_cons_succ]
    refine take_atH 13 27 hS rfl rfl (by kernel_rfl) (by kernel_rfl) (by kernel_rfl) (fun _ _ _ h => h) rfl (fun wq hq => by go_simp; first | done | with_reducible rfl) ?_
    simp only [Act.put, List.setIfInBounds_toArray, List.set_cons_zero, List.set_cons_succ]
    refine take_atH 14 28 hS rfl rfl (by kernel_rfl) (by kernel_rfl) (by kernel_rfl) (fun _ _ _ h => h) rfl (fun wq hq => by go_simp; first | done | with_reducible rfl) ?_
    simp only [Act.put, List.setIfInBounds_toArray, List.set_cons_zero, List.set_cons_succ]
    refine take_atH 15 29 hS rfl rfl (by kernel_rfl) (by kernel_rfl) (by kernel_rfl) (fun _ _ _ h => h) rfl (fun wq hq => by go_simp; first | done | with_reducible rfl) ?_
    simp only [Act.put, List.setIfInBounds_toArray, List.set_cons_zero, List.set_cons_succ]
    refine take_atH 16 30 hS rfl rfl (by kernel_rfl) (by kernel_rfl) (by kernel_rfl) (fun _ _ _ h => h) rfl (fun wq hq => by go_simp; first | done | with_reducible rfl) ?_
    simp only [Act.put, List.setIfInBounds_toArray, List.set_cons_zero, List.set_cons_succ]
    refine take_atH 17 31 hS rfl rfl (by kernel_rfl) (by kernel_rfl) (by kernel_rfl) (fun _ _ _ h => h) rfl (fun wq hq => by go_simp; first | done | with_reducible rfl) ?_
    simp only [Act.put, List.setIfInBounds_toArray, List.set_cons_zero, List.set_cons_succ]
    refine take_atH 18 32 hS rfl rfl (by kernel_rfl) (by kernel_rfl) (by kernel_rfl) (fun _ _ _ h => h) rfl (fun wq hq => by go_simp; first | done | with_reducible rfl) ?_
    simp only [Act.put, List.setIfInBounds_toArray, List.set_cons_zero, List.set_cons_succ]
    refine take_atH 19 33 hS rfl rfl (by kernel_rfl) (by kernel_rfl) (by kernel_rfl) (fun _ _ _ h => h) rfl (fun wq hq => by go_simp; first | done | with_reducible rfl) ?_
    simp only [Act.put, List.setIfInBounds_toArray, List.set_cons_zero, List.set_cons_succ]
    refine take_atH 20 34 hS rfl rfl (by kernel_rfl) (by kernel_rfl) (by kernel_rfl) (fun _ _ _ h => h) rfl (fun wq hq => by obtain ⟨c0, c1, c2, c3, c4, c5, c6, c7, c8, a6, a7, p0, p1, r0, r1, r2, r3, r4⟩ := hq.cells; go_simp; first | done | with_reducible rfl) ?_
    simp only [Act.put, List.setIfInBounds_toArray, List.set_cons_zero, List.set_cons_succ]
    refine take_atH 21 35 hS rfl rfl (by kernel_rfl) (by kernel_rfl) (by kernel_rfl) (fun _ _ _ h => h) rfl (fun wq hq => by go_simp; first | done | with_reducible rfl) ?_
    simp only [Act.put, List.setIfInBounds_toArray, List.set_cons_zero, List.set_cons_succ]
    refine take_atH 22 36 hS rfl rfl (by kernel_rfl) (by kernel_rfl) (by kernel_rfl) (fun _ _ _ h => h) rfl (fun wq hq => by go_simp; first | done | with_reducible rfl) ?_
    simp only [Act.put, List.setIfInBounds_toArray, List.set_cons_zero, List.set_cons_succ]
    refine take_atH 23 37 hS rfl rfl (by kernel_rfl) (by kernel_rfl) (by kernel_rfl) (fun _ _ _ h => h) rfl (fun wq hq => by obtain ⟨c0, c1, c2, c3, c4, c5, c6, c7, c8, a6, a7, p0, p1, r0, r1, r2, r3, r4⟩ := hq.cells; go_simp; first | done | with_reducible rfl) ?_
    simp only [Act.put, List.setIfInBounds_toArray, List.set_cons_zero, List.set_cons_succ]
    refine take_atH 24 38 hS rfl rfl (by kernel_rfl) (by kernel_rfl) (by kernel_rfl) (fun _ _ _ h => h) rfl (fun wq hq => by go_simp; first | done | with_reducible rfl) ?_
    simp only [Act.put, List.setIfInBounds_toArray, List.set_cons_zero, List.set_cons_succ]
    refine take_atH 25 39 hS rfl rfl (by kernel_rfl) (by kernel_rfl) (by kernel_rfl) (fun _ _ _ h => h) rfl (fun wq hq => by go_simp; first | done | with_reducible rfl) ?_
    simp only [Act.put, List.setIfInBounds_toArray, List.set_cons_zero, List.set_cons_succ]
    refine take_atH 26 40 hS rfl rfl (by kernel_rfl) (by kernel_rfl) (by kernel_rfl) (fun _ _ _ h => h) rfl (fun wq hq => by obtain ⟨c0, c1, c2, c3, c4, c5, c6, c7, c8, a6, a7, p0, p1, r0, r1, r2, r3, r4⟩ := hq.cells; go_simp; first | done | with_reducible rfl) ?_
    simp only [Act.put, List.setIfInBounds_toArray, List.set_cons_zero, List.set_cons_succ]
    refine lone_atH 27 rfl (by kernel_rfl) rfl (fun K hK => ?_)
    go_simp
    refine (other_any B gj js L3 s d _ hs J4).mono ?_; rintro e wN1 ⟨g4, L4, rfl, J5, hm4, hL4, k5⟩; obtain ⟨hg4, R4⟩ := J5.recs.blk _ hm4; dsimp only at hg4 R4; obtain ⟨_, _, _, _, x4, _⟩ := rc_fields R4
    refine (fun hN1 => hK _ _ hN1 ?_) (⟨k5.keep _ _ _ _ hS.e (by decide) (by decide), k5.keep _ _ _ _ hS.a (by decide) (by decide), k5.keep _ _ _ _ hS.p (by decide) (by decide), (J5.recs.blk _ (hL4 _ hm3)).2⟩); clear hK K
    refine take_atH 28 42 hN1 rfl rfl (by kernel_rfl) (by kernel_rfl) (by kernel_rfl) (fun _ _ _ h => h) rfl (fun wq hq => by go_simp; first | done | with_reducible rfl) ?_
    simp only [Act.put, List.setIfInBounds_toArray, List.set_cons_zero, List.set_cons_succ]
    refine take_atH 29 43 hN1 rfl rfl (by kernel_rfl) (by kernel_rfl) (by kernel_rfl) (fun _ _ _ h => h) rfl (fun wq hq => by go_simp; first | done | with_reducible rfl) ?_
    simp only [Act.put, List.setIfInBounds_toArray, List.set_cons_zero, List.set_cons_succ]
    refine lone_atH 30 rfl (by kernel_rfl) rfl (fun K hK => ?_)
    go_simp
    refine hK _ _ hN1 ?_; clear hK K
    refine take_atH 31 45 hN1 rfl rfl (by kernel_rfl) (by kernel_rfl) (by kernel_rfl) (fun _ _ _ h => h) rfl (fun wq hq => by go_simp; first | done | with_reducible rfl) ?_
    simp only [Act.put, List.setIfInBounds_toArray, List.set_cons_zero, List.set_cons_succ]
    refine take_atH 32 46 hN1 rfl rfl (by kernel_rfl) (by kernel_rfl) (by kernel_rfl) (fun _ _ _ h => h) rfl (fun wq hq => by go_simp; first | done | with_reducible rfl) ?_
    simp only [Act.put, List.setIfInBounds_toArray, List.set_cons_zero, List.set_cons_succ]
    refine take_atH 33 13 hN1 rfl rfl (by kernel_rfl) (by kernel_rfl) (by kernel_rfl) (fun _ _ _ h => h) rfl (fun wq hq => by go_simp; first | done | with_reducible rfl) ?_
    simp only [Act.put, List.setIfInBounds_toArray, List.set_cons_zero, List.set_cons_succ]
    refine wpAnyH_done (by kernel_rfl) ?_ _
    have k6 := k4.trans k5
    have hS0 := hN1
    replace hm3 := hL4 _ hm3
    clear J4 k4 k5 hN1 hS
    obtain ⟨c0, c1, c2, c3, c4, c5, c6, c7, c8, a6, a7, p0, p1, r0, r1, r2, r3, r4⟩ := hS0.cells
    generalize wN1 = w6 at *
    by_cases h4 : ((js.recs s d).wrote.size : Int) + (N : Int) < (js.recs (1 - s) d).read
    · have hX : X = (js, false) := by rw [← HX.out]; unfold wroteJ; rw [if_pos (.inr (.inr (.inr h4)))]
      go_wp2
      go_ret
      rw [hX]
      first | exact ⟨L4, rfl, J5, k6, (by first | exact fun x hx => hL4 x (hL3 x hx) | exact fun a b c h => hL4 (a, b, c) (hL3 (a, b, c) h))⟩ | exact ⟨rfl, L4, J5, k6, (by first | exact fun x hx => hL4 x (hL3 x hx) | exact fun a b c h => hL4 (a, b, c) (hL3 (a, b, c) h))⟩
    have hc : ¬ ((⟨#[]⟩ : ByteArray) ≠ ⟨#[]⟩ ∨ (N : Int) < 0 ∨ (dta.size : Int) < (N : Int) ∨ ((js.recs s d).wrote.size : Int) + (N : Int) < (js.recs (1 - s) d).read) := by
      rintro (h | h | h | h)
      · exact h rfl
      · omega
      · omega
      · exact h4 h
    obtain ⟨y, hy⟩ : ∃ y, dta.extract 0 N = y := ⟨_, rfl⟩
    have hys : y.size ≤ 100000 := by rw [← hy, ByteArray.size_extract]; omega
    have hcat : ¬ 9223372036854775807 < (js.recs s d).wrote.size + y.size := by omega
    go_wp2_with fail
    refine (hended_any er w6).mono ?_
    rintro e w7 ⟨rfl, rfl⟩
    cases he : endedE er with
    | true =>
      have hX : X = (js.upd s d { js.recs s d with over := true, wrote := (js.recs s d).wrote ++ y }, true) := by rw [← HX.out, ← hy]; unfold wroteJ; rw [if_neg hc, if_pos he]; rfl
      have R6 : RcBlk (w6.setCell ⟨g, 55, none⟩ (.bool true)) g { js.recs s d with over := true } := blk_set hS0.r 55 (.bool true)
      obtain ⟨_, _, _, _, _, fz⟩ := rc_fields hS0.r
      have k6' := k6.set hg hS0.r (.bool true) (q := 55)
      have J6 := J5.turn hm3 R6 (fun j hj => Below.heap_setCell _ ⟨g, 55, none⟩ _ j hj)
      replace hS0 := hS0.set J5 hm3 R6 (fun j hj => Below.heap_setCell _ ⟨g, 55, none⟩ _ j hj)
      replace k6 := k6'
      clear k6' J5 R6
      go_upto_region 8 with (fail)
      generalize w6.setCell ⟨g, 55, none⟩ (.bool true) = w6 at *
      refine wp_region_held (S := fun W => WE w.heap.size (w.heap.size + 1) (w.heap.size + 2) s d sta sda kda dla ena ida na dta era st sd kd dl en id (N : Int) ⟨#[]⟩ er W) (by kernel_rfl) ?_
      change wpAnyH _ _ _ _ _ _ _ _ (World.drew _)
      have hS : WE w.heap.size (w.heap.size + 1) (w.heap.size + 2) s d sta sda kda dla ena ida na dta era st sd kd dl en id (N : Int) ⟨#[]⟩ er w6.drew := ⟨hS0.e, hS0.a, hS0.p⟩
      have R7 : RcBlk w6.drew g ({ js.recs s d with over := true }) := hS0.r
      have J7 := J6.drew
      have k7 : KJ B w w6.drew := ⟨below_drewN k6.below 1, k6.keep⟩
      clear J6 k6 hS0
      generalize w6.drew = w7 at *
      obtain ⟨_, _, _, x3, _, fz⟩ := rc_fields R7
      refine take_atH 0 72 hS rfl rfl (by kernel_rfl) (by kernel_rfl) (by kernel_rfl) (fun _ _ _ h => h) rfl (fun wq hq => by go_simp; first | done | with_reducible rfl) ?_
      simp only [Act.put, List.setIfInBounds_toArray, List.set_cons_zero, List.set_cons_succ]
      refine take_atH 1 73 hS rfl rfl (by kernel_rfl) (by kernel_rfl) (by kernel_rfl) (fun _ _ _ h => h) rfl (fun wq hq => by go_simp; first | done | with_reducible rfl) ?_
      simp only [Act.put, List.setIfInBounds_toArray, List.set_cons_zero, List.set_cons_succ]
      refine take_atH 2 74 hS rfl rfl (by kernel_rfl) (by kernel_rfl) (by kernel_rfl) (fun _ _ _ h => h) rfl (fun wq hq => by go_simp; first | done | with_reducible rfl) ?_
      simp only [Act.put, List.setIfInBounds_toArray, List.set_cons_zero, List.set_cons_succ]
      refine take_atH 4 76 hS rfl rfl (by kernel_rfl) (by kernel_rfl) (by kernel_rfl) (fun _ _ _ h => h) rfl (fun wq hq => by go_simp; first | done | with_reducible rfl) ?_
      simp only [Act.put, List.setIfInBounds_toArray, List.set_cons_zero, List.set_cons_succ]
      refine take_atH 5 77 hS rfl rfl (by kernel_rfl) (by kernel_rfl) (by kernel_rfl) (fun _ _ _ h => h) rfl (fun wq hq => by obtain ⟨c0, c1, c2, c3, c4, c5, c6, c7, c8, a6, a7, p0, p1⟩ := hq.cells; go_simp; first | done | with_reducible rfl) ?_
      simp only [Act.put, List.setIfInBounds_toArray, List.set_cons_zero, List.set_cons_succ]
      refine take_atH 6 78 hS rfl rfl (by kernel_rfl) (by kernel_rfl) (by kernel_rfl) (fun _ _ _ h => h) rfl (fun wq hq => by go_simp; first | done | with_reducible rfl) ?_
      simp only [Act.put, List.setIfInBounds_toArray, List.set_cons_zero, List.set_cons_succ]
      refine take_atH 7 79 hS rfl rfl (by kernel_rfl) (by kernel_rfl) (by kernel_rfl) (fun _ _ _ h => h) rfl (fun wq hq => by obtain ⟨c0, c1, c2, c3, c4, c5, c6, c7, c8, a6, a7, p0, p1⟩ := hq.cells; go_simp; first | done | with_reducible rfl) ?_
      simp only [Act.put, List.setIfInBounds_toArray, List.set_cons_zero, List.set_cons_succ]
      refine take_atH 8 80 hS rfl rfl (by kernel_rfl) (by kernel_rfl) (by kernel_rfl) (fun _ _ _ h => h) rfl (fun wq hq => by go_simp; first | done | with_reducible rfl) ?_
      simp only [Act.put, List.setIfInBounds_toArray, List.set_cons_zero, List.set_cons_succ]
      refine lone_atH 3 rfl (by kernel_rfl) rfl (fun K hK => ?_)
      go_simp
      refine hK _ _ hS ?_; clear hK K
      refine take_atH 9 81 hS rfl rfl (by kernel_rfl) (by kernel_rfl) (by kernel_rfl) (fun _ _ _ h => h) rfl (fun wq hq => by go_simp; first | done | with_reducible rfl) ?_
      simp only [Act.put, List.setIfInBounds_toArray, List.set_cons_zero, List.set_cons_succ]
      refine take_atH 10 82 hS rfl rfl (by kernel_rfl) (by kernel_rfl) (by kernel_rfl) (fun _ _ _ h => h) rfl (fun wq hq => by go_simp; first | done | with_reducible rfl) ?_
      simp only [Act.put, List.setIfInBounds_toArray, List.set_cons_zero, List.set_cons_succ]
      refine take_atH 11 83 hS rfl rfl (by kernel_rfl) (by kernel_rfl) (by kernel_rfl) (fun _ _ _ h => h) rfl (fun wq hq => by go_simp; first | done | with_reducible rfl) ?_
      simp only [Act.put, List.setIfInBounds_toArray, List.set_cons_zero, List.set_cons_succ]
      refine lone_atH 12 rfl (by kernel_rfl) rfl (fun K hK => ?_)
      have R8 : RcBlk (w7.setCell ⟨g, 57, none⟩ (.string ((js.recs s d).wrote ++ y))) g { { js.recs s d with over := true } with wrote := (js.recs s d).wrote ++ y } := blk_set R7 57 (.string ((js.recs s d).wrote ++ y))
      have J8 := J7.turn hm3 R8 (fun j hj => Below.heap_setCell _ ⟨g, 57, none⟩ _ j hj)
      have k8 := k7.set hg R7 (.string ((js.recs s d).wrote ++ y)) (q := 57)
      have S8 := hS.set J7 hm3 (W' := w7.setCell ⟨g, 57, none⟩ (.string ((js.recs s d).wrote ++ y))) (fun j hj => Below.heap_setCell _ ⟨g, 57, none⟩ _ j hj)
      go_simp
      refine hK _ _ S8 ?_; clear hK K
      refine wpAnyH_done (by kernel_rfl) ?_ _
      go_wp2
      go_ret
      try rw [hX]
      rw [upd_upd] at J8
      first | exact ⟨L4, rfl, J8, k8, (by first | exact fun x hx => hL4 x (hL3 x hx) | exact fun a b c h => hL4 (a, b, c) (hL3 (a, b, c) h))⟩ | exact ⟨rfl, L4, J8, k8, (by first | exact fun x hx => hL4 x (hL3 x hx) | exact fun a b c h => hL4 (a, b, c) (hL3 (a, b, c) h))⟩
    | false =>
      have he' : ¬ (endedE er = true) := by rw [he]; simp
      by_cases h5 : er = 0
      · subst h5
        cases hv : (js.recs s d).over with
        | true =>
          have hX : X = (js, false) := by rw [← HX.out]; unfold wroteJ; rw [if_neg hc, if_neg he', if_pos (.inr (.inl hv))]
          rw [hv] at r1
          go_wp2
          go_ret
          rw [hX]
          first | exact ⟨L4, rfl, J5, k6, (by first | exact fun x hx => hL4 x (hL3 x hx) | exact fun a b c h => hL4 (a, b, c) (hL3 (a, b, c) h))⟩ | exact ⟨rfl, L4, J5, k6, (by first | exact fun x hx => hL4 x (hL3 x hx) | exact fun a b c h => hL4 (a, b, c) (hL3 (a, b, c) h))⟩
        | false =>
          rw [hv] at r1
          by_cases h6 : (N : Int) = (dta.size : Int)
          · have hX : X = (js.upd s d { js.recs s d with wrote := (js.recs s d).wrote ++ y }, true) := by rw [← HX.out, ← hy]; unfold wroteJ; rw [if_neg hc, if_neg he', if_neg (by rintro (h | h | h); exact h rfl; rw [hv] at h; cases h; exact h h6)]; rfl
            have J6 := J5
            have h6' : N = dta.size := by omega
            clear J5 h6 hw c6
            subst h6'
            have hyd : dta = y := by rw [← hy]; simp
            subst hyd
            obtain ⟨c0, c1, c2, c3, c4, c5, c6, c7, c8, a6, a7, p0, p1, r0, r1, r2, r3, r4⟩ := hS0.cells
            rw [hv] at r1
            clear hy
            go_upto_region 8 with (fail)
            refine wp_region_held (S := fun W => WE w.heap.size (w.heap.size + 1) (w.heap.size + 2) s d sta sda kda dla ena ida na dta era st sd kd dl en id (dta.size : Int) ⟨#[]⟩ 0 W) (by kernel_rfl) ?_
            change wpAnyH _ _ _ _ _ _ _ _ (World.drew _)
            have hS : WE w.heap.size (w.heap.size + 1) (w.heap.size + 2) s d sta sda kda dla ena ida na dta era st sd kd dl en id (dta.size : Int) ⟨#[]⟩ 0 w6.drew := ⟨hS0.e, hS0.a, hS0.p⟩
            have R7 : RcBlk w6.drew g (js.recs s d) := hS0.r
            have J7 := J6.drew
            have k7 : KJ B w w6.drew := ⟨below_drewN k6.below 1, k6.keep⟩
            clear J6 k6 hS0
            generalize w6.drew = w7 at *
            obtain ⟨_, _, _, x3, _, fz⟩ := rc_fields R7
            refine take_atH 0 72 hS rfl rfl (by kernel_rfl) (by kernel_rfl) (by kernel_rfl) (fun _ _ _ h => h) rfl (fun wq hq => by go_simp; first | done | with_reducible rfl) ?_
            simp only [Act.put, List.setIfInBounds_toArray, List.set_cons_zero, List.set_cons_succ]
            refine take_atH 1 73 hS rfl rfl (by kernel_rfl) (by kernel_rfl) (by kernel_rfl) (fun _ _ _ h => h) rfl (fun wq hq => by go_simp; first | done | with_reducible rfl) ?_
            simp only [Act.put, List.setIfInBounds_toArray, List.set_cons_zero, List.set_cons_succ]
            refine take_atH 2 74 hS rfl rfl (by kernel_rfl) (by kernel_rfl) (by kernel_rfl) (fun _ _ _ h => h) rfl (fun wq hq => by go_simp; first | done | with_reducible rfl) ?_
            simp only [Act.put, List.setIfInBounds_toArray, List.set_cons_zero, List.set_cons_succ]
            refine take_atH 4 76 hS rfl rfl (by kernel_rfl) (by kernel_rfl) (by kernel_rfl) (fun _ _ _ h => h) rfl (fun wq hq => by go_simp; first | done | with_reducible rfl) ?_
            simp only [Act.put, List.setIfInBounds_toArray, List.set_cons_zero, List.set_cons_succ]
            refine take_atH 5 77 hS rfl rfl (by kernel_rfl) (by kernel_rfl) (by kernel_rfl) (fun _ _ _ h => h) rfl (fun wq hq => by obtain ⟨c0, c1, c2, c3, c4, c5, c6, c7, c8, a6, a7, p0, p1⟩ := hq.cells; go_simp; first | done | with_reducible rfl) ?_
            simp only [Act.put, List.setIfInBounds_toArray, List.set_cons_zero, List.set_cons_succ]
            refine take_atH 6 78 hS rfl rfl (by kernel_rfl) (by kernel_rfl) (by kernel_rfl) (fun _ _ _ h => h) rfl (fun wq hq => by go_simp; first | done | with_reducible rfl) ?_
            simp only [Act.put, List.setIfInBounds_toArray, List.set_cons_zero, List.set_cons_succ]
            refine take_atH 7 79 hS rfl rfl (by kernel_rfl) (by kernel_rfl) (by kernel_rfl) (fun _ _ _ h => h) rfl (fun wq hq => by obtain ⟨c0, c1, c2, c3, c4, c5, c6, c7, c8, a6, a7, p0, p1⟩ := hq.cells; go_simp; first | done | with_reducible rfl) ?_
            simp only [Act.put, List.setIfInBounds_toArray, List.set_cons_zero, List.set_cons_succ]
            refine take_atH 8 80 hS rfl rfl (by kernel_rfl) (by kernel_rfl) (by kernel_rfl) (fun _ _ _ h => h) rfl (fun wq hq => by go_simp; first | done | with_reducible rfl) ?_
            simp only [Act.put, List.setIfInBounds_toArray, List.set_cons_zero, List.set_cons_succ]
            refine lone_atH 3 rfl (by kernel_rfl) rfl (fun K hK => ?_)
            go_simp
            refine hK _ _ hS ?_; clear hK K
            refine take_atH 9 81 hS rfl rfl (by kernel_rfl) (by kernel_rfl) (by kernel_rfl) (fun _ _ _ h => h) rfl (fun wq hq => by go_simp; first | done | with_reducible rfl) ?_
            simp only [Act.put, List.setIfInBounds_toArray, List.set_cons_zero, List.set_cons_succ]
            refine take_atH 10 82 hS rfl rfl (by kernel_rfl) (by kernel_rfl) (by kernel_rfl) (fun _ _ _ h => h) rfl (fun wq hq => by go_simp; first | done | with_reducible rfl) ?_
            simp only [Act.put, List.setIfInBounds_toArray, List.set_cons_zero, List.set_cons_succ]
            refine take_atH 11 83 hS rfl rfl (by kernel_rfl) (by kernel_rfl) (by kernel_rfl) (fun _ _ _ h => h) rfl (fun wq hq => by go_simp; first | done | with_reducible rfl) ?_
            simp only [Act.put, List.setIfInBounds_toArray, List.set_cons_zero, List.set_cons_succ]
            refine lone_atH 12 rfl (by kernel_rfl) rfl (fun K hK => ?_)
            have R8 : RcBlk (w7.setCell ⟨g, 57, none⟩ (.string ((js.recs s d).wrote ++ dta))) g { js.recs s d with wrote := (js.recs s d).wrote ++ dta } := blk_set R7 57 (.string ((js.recs s d).wrote ++ dta))
            have J8 := J7.turn hm3 R8 (fun j hj => Below.heap_setCell _ ⟨g, 57, none⟩ _ j hj)
            have k8 := k7.set hg R7 (.string ((js.recs s d).wrote ++ dta)) (q := 57)
            have S8 := hS.set J7 hm3 (W' := w7.setCell ⟨g, 57, none⟩ (.string ((js.recs s d).wrote ++ dta))) (fun j hj => Below.heap_setCell _ ⟨g, 57, none⟩ _ j hj)
            go_simp
            refine hK _ _ S8 ?_; clear hK K
            refine wpAnyH_done (by kernel_rfl) ?_ _
            go_wp2
            go_ret
            try rw [hX]
            rw [hv] at J8
            first | exact ⟨L4, rfl, J8, k8, (by first | exact fun x hx => hL4 x (hL3 x hx) | exact fun a b c h => hL4 (a, b, c) (hL3 (a, b, c) h))⟩ | exact ⟨rfl, L4, J8, k8, (by first | exact fun x hx => hL4 x (hL3 x hx) | exact fun a b c h => hL4 (a, b, c) (hL3 (a, b, c) h))⟩
          · have hX : X = (js, false) := by rw [← HX.out]; unfold wroteJ; rw [if_neg hc, if_neg he', if_pos (.inr (.inr h6))]
            have h6' : ((N : Int) == (dta.size : Int)) = false := beq_eq_false_iff_ne.2 h6
            go_wp2
            go_ret
            rw [hX]
            first | exact ⟨L4, rfl, J5, k6, (by first | exact fun x hx => hL4 x (hL3 x hx) | exact fun a b c h => hL4 (a, b, c) (hL3 (a, b, c) h))⟩ | exact ⟨rfl, L4, J5, k6, (by first | exact fun x hx => hL4 x (hL3 x hx) | exact fun a b c h => hL4 (a, b, c) (hL3 (a, b, c) h))⟩
      · have hX : X = (js, false) := by rw [← HX.out]; unfold wroteJ; rw [if_neg hc, if_neg he', if_pos (.inl h5)]
        have h5' : (er == 0) = false := beq_eq_false_iff_ne.2 h5
        go_wp2
        go_ret
        rw [hX]
        first | exact ⟨L4, rfl, J5, k6, (by first | exact fun x hx => hL4 x (hL3 x hx) | exact fun a b c h => hL4 (a, b, c) (hL3 (a, b, c) h))⟩ | exact ⟨rfl, L4, J5, k6, (by first | exact fun x hx => hL4 x (hL3 x hx) | exact fun a b c h => hL4 (a, b, c) (hL3 (a, b, c) h))⟩
  · obtain ⟨h1', h1a, h1b, h1c⟩ := str_ne h1
    have hX : X = (js, false) := by rw [← HX.out]; unfold wroteJ; rw [if_pos (.inl h1)]
    go_upto_region 2 with (fail)
    refine wp_region_held (S := fun W => WJ w.heap.size (w.heap.size + 1) (w.heap.size + 2) g s d sta sda kda dla ena ida na dta era st sd kd dl en id n dt er (js.recs s d) W) (by kernel_rfl) ?_
    change wpAnyH _ _ _ _ _ _ _ _ (World.drew _)
    have hS : WJ w.heap.size (w.heap.size + 1) (w.heap.size + 2) g s d sta sda kda dla ena ida na dta era st sd kd dl en id n dt er (js.recs s d) w3.drew := ⟨hS0.e, hS0.a, hS0.p, hS0.r⟩
    have J4 := J3.drew
    have k4 : KJ B w w3.drew := ⟨below_drewN k3.below 1, k3.keep⟩
    clear J3 k3 hS0
    generalize w3.drew = w4 at *
    refine take_atH 0 14 hS rfl rfl (by kernel_rfl) (by kernel_rfl) (by kernel_rfl) (fun _ _ _ h => h) rfl (fun wq hq => by go_simp; first | done | with_reducible rfl) ?_
    simp only [Act.put, List.setIfInBounds_toArray, List.set_cons_zero, List.set_cons_succ]
    refine take_atH 1 15 hS rfl rfl (by kernel_rfl) (by kernel_rfl) (by kernel_rfl) (fun _ _ _ h => h) rfl (fun wq hq => by obtain ⟨c0, c1, c2, c3, c4, c5, c6, c7, c8, a6, a7, p0, p1, r0, r1, r2, r3, r4⟩ := hq.cells; go_simp; first | done | with_reducible rfl) ?_
    simp only [Act.put, List.setIfInBounds_toArray, List.set_cons_zero, List.set_cons_succ]
    refine take_atH 2 16 hS rfl rfl (by kernel_rfl) (by kernel_rfl) (by kernel_rfl) (fun _ _ _ h => h) rfl (fun wq hq => by go_simp; first | done | with_reducible rfl) ?_
    simp only [Act.put, List.setIfInBounds_toArray, List.set_cons_zero, List.set_cons_succ]
    refine take_atH 3 17 hS rfl rfl (by kernel_rfl) (by kernel_rfl) (by kernel_rfl) (fun _ _ _ h => h) rfl (fun wq hq => by go_simp; first | done | with_reducible rfl) ?_
    simp only [Act.put, List.setIfInBounds_toArray, List.set_cons_zero, List.set_cons_succ]
    refine skip_atH 4 18 hS rfl rfl (by kernel_rfl) (by kernel_rfl) (by kernel_rfl) (fun _ _ _ h => h) rfl ?_
    simp only [Act.put, List.setIfInBounds_toArray, List.set_cons_zero, List.set_cons_succ]
    refine skip_atH 5 19 hS rfl rfl (by kernel_rfl) (by kernel_rfl) (by kernel_rfl) (fun _ _ _ h => h) rfl ?_
    simp only [Act.put, List.setIfInBounds_toArray, List.set_cons_zero, List.set_cons_succ]
    refine skip_atH 6 20 hS rfl rfl (by kernel_rfl) (by kernel_rfl) (by kernel_rfl) (fun _ _ _ h => h) rfl ?_
    simp only [Act.put, List.setIfInBounds_toArray, List.set_cons_zero, List.set_cons_succ]
    refine take_atH 7 21 hS rfl rfl (by kernel_rfl) (by kernel_rfl) (by kernel_rfl) (fun _ _ _ h => h) rfl (fun wq hq => by go_simp; first | done | with_reducible rfl) ?_
    simp only [Act.put, List.setIfInBounds_toArray, List.set_cons_zero, List.set_cons_succ]
    refine take_atH 8 22 hS rfl rfl (by kernel_rfl) (by kernel_rfl) (by kernel_rfl) (fun _ _ _ h => h) rfl (fun wq hq => by go_simp; first | done | with_reducible rfl) ?_
    simp only [Act.put, List.setIfInBounds_toArray, List.set_cons_zero, List.set_cons_succ]
    refine skip_atH 9 23 hS rfl rfl (by kernel_rfl) (by kernel_rfl) (by kernel_rfl) (fun _ _ _ h => h) rfl ?_
    simp only [Act.put, List.setIfInBounds_toArray, List.set_cons_zero, List.set_cons_succ]
    refine skip_atH 10 24 hS rfl rfl (by kernel_rfl) (by kernel_rfl) (by kernel_rfl) (fun _ _ _ h => h) rfl ?_
    simp only [Act.put, List.setIfInBounds_toArray, List.set_cons_zero, List.set_cons_succ]
    refine skip_atH 11 25 hS rfl rfl (by kernel_rfl) (by kernel_rfl) (by kernel_rfl) (fun _ _ _ h => h) rfl ?_
    simp only [Act.put, List.setIfInBounds_toArray, List.set_cons_zero, List.set_cons_succ]
    refine skip_atH 12 26 hS rfl rfl (by kernel_rfl) (by kernel_rfl) (by kernel_rfl) (fun _ _ _ h => h) rfl ?_
    simp only [Act.put, List.setIfInBounds_toArray, List.set_cons_zero, List.set_cons_succ]
    refine skip_atH 13 27 hS rfl rfl (by kernel_rfl) (by kernel_rfl) (by kernel_rfl) (fun _ _ _ h => h) rfl ?_
    simp only [Act.put, List.setIfInBounds_toArray, List.set_cons_zero, List.set_cons_succ]
    refine skip_atH 14 28 hS rfl rfl (by kernel_rfl) (by kernel_rfl) (by kernel_rfl) (fun _ _ _ h => h) rfl ?_
    simp only [Act.put, List.setIfInBounds_toArray, List.set_cons_zero, List.set_cons_succ]
    refine take_atH 15 29 hS rfl rfl (by kernel_rfl) (by kernel_rfl) (by kernel_rfl) (fun _ _ _ h => h) rfl (fun wq hq => by go_simp; first | done | with_reducible rfl) ?_
    simp only [Act.put, List.setIfInBounds_toArray, List.set_cons_zero, List.set_cons_succ]
    refine take_atH 16 30 hS rfl rfl (by kernel_rfl) (by kernel_rfl) (by kernel_rfl) (fun _ _ _ h => h) rfl (fun wq hq => by go_simp; first | done | with_reducible rfl) ?_
    simp only [Act.put, List.setIfInBounds_toArray, List.set_cons_zero, List.set_cons_succ]
    refine skip_atH 17 31 hS rfl rfl (by kernel_rfl) (by kernel_rfl) (by kernel_rfl) (fun _ _ _ h => h) rfl ?_
    simp only [Act.put, List.setIfInBounds_toArray, List.set_cons_zero, List.set_cons_succ]
    refine skip_atH 18 32 hS rfl rfl (by kernel_rfl) (by kernel_rfl) (by kernel_rfl) (fun _ _ _ h => h) rfl ?_
    simp only [Act.put, List.setIfInBounds_toArray, List.set_cons_zero, List.set_cons_succ]
    refine skip_atH 19 33 hS rfl rfl (by kernel_rfl) (by kernel_rfl) (by kernel_rfl) (fun _ _ _ h => h) rfl ?_
    simp only [Act.put, List.setIfInBounds_toArray, List.set_cons_zero, List.set_cons_succ]
    refine skip_atH 20 34 hS rfl rfl (by kernel_rfl) (by kernel_rfl) (by kernel_rfl) (fun _ _ _ h => h) rfl ?_
    simp only [Act.put, List.setIfInBounds_toArray, List.set_cons_zero, List.set_cons_succ]
    refine skip_atH 21 35 hS rfl rfl (by kernel_rfl) (by kernel_rfl) (by kernel_rfl) (fun _ _ _ h => h) rfl ?_
    simp only [Act.put, List.setIfInBounds_toArray, List.set_cons_zero, List.set_cons_succ]
    refine skip_atH 22 36 hS rfl rfl (by kernel_rfl) (by kernel_rfl) (by kernel_rfl) (fun _ _ _ h => h) rfl ?_
    simp only [Act.put, List.setIfInBounds_toArray, List.set_cons_zero, List.set_cons_succ]
    refine skip_atH 23 37 hS rfl rfl (by kernel_rfl) (by kernel_rfl) (by kernel_rfl) (fun _ _ _ h => h) rfl ?_
    simp only [Act.put, List.setIfInBounds_toArray, List.set_cons_zero, List.set_cons_succ]
    refine skip_atH 24 38 hS rfl rfl (by kernel_rfl) (by kernel_rfl) (by kernel_rfl) (fun _ _ _ h => h) rfl ?_
    simp only [Act.put, List.setIfInBounds_toArray, List.set_cons_zero, List.set_cons_succ]
    refine skip_atH 25 39 hS rfl rfl (by kernel_rfl) (by kernel_rfl) (by kernel_rfl) (fun _ _ _ h => h) rfl ?_
    simp only [Act.put, List.setIfInBounds_toArray, List.set_cons_zero, List.set_cons_succ]
    refine skip_atH 26 40 hS rfl rfl (by kernel_rfl) (by kernel_rfl) (by kernel_rfl) (fun _ _ _ h => h) rfl ?_
    simp only [Act.put, List.setIfInBounds_toArray, List.set_cons_zero, List.set_cons_succ]
    refine skip_atH 27 41 hS rfl rfl (by kernel_rfl) (by kernel_rfl) (by kernel_rfl) (fun _ _ _ h => h) rfl ?_
    simp only [Act.put, List.setIfInBounds_toArray, List.set_cons_zero, List.set_cons_succ]
    refine skip_atH 28 42 hS rfl rfl (by kernel_rfl) (by kernel_rfl) (by kernel_rfl) (fun _ _ _ h => h) rfl ?_
    simp only [Act.put, List.setIfInBounds_toArray, List.set_cons_zero, List.set_cons_succ]
    refine skip_atH 29 43 hS rfl rfl (by kernel_rfl) (by kernel_rfl) (by kernel_rfl) (fun _ _ _ h => h) rfl ?_
    simp only [Act.put, List.setIfInBounds_toArray, List.set_cons_zero, List.set_cons_succ]
    refine skip_atH 30 44 hS rfl rfl (by kernel_rfl) (by kernel_rfl) (by kernel_rfl) (fun _ _ _ h => h) rfl ?_
    simp only [Act.put, List.setIfInBounds_toArray, List.set_cons_zero, List.set_cons_succ]
    refine skip_atH 31 45 hS rfl rfl (by kernel_rfl) (by kernel_rfl) (by kernel_rfl) (fun _ _ _ h => h) rfl ?_
    simp only [Act.put, List.setIfInBounds_toArray, List.set_cons_zero, List.set_cons_succ]
    refine take_atH 32 46 hS rfl rfl (by kernel_rfl) (by kernel_rfl) (by kernel_rfl) (fun _ _ _ h => h) rfl (fun wq hq => by go_simp; first | done | with_reducible rfl) ?_
    simp only [Act.put, List.setIfInBounds_toArray, List.set_cons_zero, List.set_cons_succ]
    refine take_atH 33 13 hS rfl rfl (by kernel_rfl) (by kernel_rfl) (by kernel_rfl) (fun _ _ _ h => h) rfl (fun wq hq => by go_simp; first | done | with_reducible rfl) ?_
    simp only [Act.put, List.setIfInBounds_toArray, List.set_cons_zero, List.set_cons_succ]
    refine wpAnyH_done (by kernel_rfl) ?_ _
    go_wp2
    go_ret
    rw [hX]
    first | exact ⟨L3, rfl, J4, k4, (by first | exact hL3 | exact fun a b c h => hL3 (a, b, c) h)⟩ | exact ⟨rfl, L3, J4, k4, (by first | exact hL3 | exact fun a b c h => hL3 (a, b, c) h)⟩
end Go.Proofs.Ytkikonknciffiaa
