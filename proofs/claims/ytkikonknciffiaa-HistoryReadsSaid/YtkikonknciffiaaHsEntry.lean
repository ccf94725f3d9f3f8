/- Entry: the walk. -/
import Derived.Test.YtkikonknciffiaaHsEnds
namespace Go.Proofs.Ytkikonknciffiaa
open Go.RowKit
set_option linter.unusedVariables false
set_option linter.unusedSimpArgs false

/-- What Entry reads first. -/
structure IJ (gj gm ge : Nat) (js : JS) (st : Int) (sd kd dl : Nat) (en : Bool) (id n : Int) (dt : ByteArray) (er : Int) (W : World) : Prop where
  e : EnBlk W ge st sd kd dl en id n dt er
  j : W.heap[gj]? = some (.cells #[.int .i64 js.last, .bool js.some, .map (some gm)] 50 (0, 0))
theorem jd_cells {W : World} {gj gm : Nat} {js : JS} (h : W.heap[gj]? = some (.cells #[.int .i64 js.last, .bool js.some, .map (some gm)] 50 (0, 0))) : W.cell? ⟨gj, 0, none⟩ = some (.int .i64 js.last) ∧ W.cell? ⟨gj, 1, none⟩ = some (.bool js.some) ∧ W.frozen? ⟨gj, 0, none⟩ = false ∧ W.frozen? ⟨gj, 1, none⟩ = false := by
  refine ⟨?_, ?_, by simp [World.frozen?, h], by simp [World.frozen?, h]⟩ <;> (simp only [World.cell?, h]; rfl)
theorem JAt.setJ {B gj gm : Nat} {js : JS} {L : List (Nat × Nat × Nat)} {W W' : World} {la : Int} {so : Bool} (h : JAt B gj js L W) (hj : W.heap[gj]? = some (.cells #[.int .i64 js.last, .bool js.some, .map (some gm)] 50 (0, 0))) (hj' : W'.heap[gj]? = some (.cells #[.int .i64 la, .bool so, .map (some gm)] 50 (0, 0))) (ho : ∀ j, j ≠ gj → W'.heap[j]? = W.heap[j]?) : JAt B gj ⟨la, so, js.recs⟩ L W' := by
  obtain ⟨gm', h1, h2, h3⟩ := h.row
  have e5 := h2.symm.trans hj
  injection e5 with e5
  injection e5 with e5 _
  simp only [Array.mk.injEq, List.cons.injEq, Value.map.injEq, Option.some.injEq, true_and, and_true] at e5
  subst e5
  have n1 : gm' ≠ gj := by intro e; rw [e] at h3; have e5 := h3.symm.trans h2; injection e5 with e5; cases e5
  refine ⟨h.ge, ⟨gm', h1, hj', (ho _ n1).trans h3⟩, ⟨fun x hx => ?_, h.recs.keys, h.recs.apart, h.recs.rest⟩⟩
  obtain ⟨h6, h7⟩ := h.recs.blk x hx
  refine ⟨h6, (ho _ ?_).trans h7⟩
  intro e
  rw [e] at h7
  have e5 := h2.symm.trans h7
  injection e5 with e5
  injection e5 with _ e5
  exact absurd e5 (by decide)
theorem KJ.setJ {B gj q : Nat} {a b : World} {cs : Array Value} (h : KJ B a b) (hB : B ≤ gj) (hj : b.heap[gj]? = some (.cells cs 50 (0, 0))) (v : Value) : KJ B a (b.setCell ⟨gj, q, none⟩ v) :=
  ⟨h.below.setCell (p := ⟨gj, q, none⟩) hB v, fun j cs t fr h1 h2 h3 => by
    have e4 := h.keep j cs t fr h1 h2 h3
    refine (Below.heap_setCell _ ⟨gj, q, none⟩ _ j ?_).trans e4
    intro e
    subst e
    have e5 := e4.symm.trans hj
    injection e5 with e5
    injection e5 with _ e5
    exact h2 e5⟩
set_option maxRecDepth 100000 in
set_option maxHeartbeats 4000000 in
theorem entry_any (B gj : Nat) (js : JS) (L : List (Nat × Nat × Nat)) (st : Int) (sd kd dl : Nat) (en : Bool) (id n : Int) (dt : ByteArray) (er : Int) (w : World) (hb : sd ≤ 1 → JB js sd dl) (hdt : dt.size ≤ 100000) (h : JAt B gj js L w) :
    Calls Try.prog 15 #[.pointer (some ⟨gj, 0, none⟩), .agg #[.int .i64 st, .int .u8 (sd : Int), .int .u8 (kd : Int), .int .u8 (dl : Int), .bool en, .int .i64 id, .int .i64 n, .string dt, .int .i64 er]] w fun e w' => ∃ L', e = .returned (.bool (entryJ js ⟨st, sd, kd, dl, en, id, n, dt, er⟩).2) ∧ JAt B gj (entryJ js ⟨st, sd, kd, dl, en, id, n, dt, er⟩).1 L' w' ∧ KJ B w w' := by
  have hB : B ≤ w.heap.size := Nat.le_trans h.ge (Nat.le_of_lt h.lt)
  have b1 := (Below.refl w.heap.size w).alloc (Nat.le_refl _) (.cells #[.int .i64 st, .int .u8 (sd : Int), .int .u8 (kd : Int), .int .u8 (dl : Int), .bool en, .int .i64 id, .int .i64 n, .string dt, .int .i64 er] 38)
  have J1 := h.alloc (.cells #[.int .i64 st, .int .u8 (sd : Int), .int .u8 (kd : Int), .int .u8 (dl : Int), .bool en, .int .i64 id, .int .i64 n, .string dt, .int .i64 er] 38)
  have k1 := KJ.ofBelow hB b1
  have E1 : EnBlk (w.alloc (.cells #[.int .i64 st, .int .u8 (sd : Int), .int .u8 (kd : Int), .int .u8 (dl : Int), .bool en, .int .i64 id, .int .i64 n, .string dt, .int .i64 er] 38)) w.heap.size st sd kd dl en id n dt er := World.alloc_heap_new w _
  obtain ⟨gm, _, hj1, _⟩ := J1.row
  obtain ⟨X, hX⟩ : ∃ X, entryJ js ⟨st, sd, kd, dl, en, id, n, dt, er⟩ = X := ⟨_, rfl⟩
  rw [hX]
  have HX := hide hX
  clear hX b1 h
  go_enter Try.func15, Try.ntmps15
  go_upto_region 1 with (fail)
  generalize w.alloc (.cells #[.int .i64 st, .int .u8 (sd : Int), .int .u8 (kd : Int), .int .u8 (dl : Int), .bool en, .int .i64 id, .int .i64 n, .string dt, .int .i64 er] 38) = w1 at *
  by_cases h1 : 1 < sd
  · have h1' : (1 : Int) < (sd : Int) := by omega
    have hX : X = (js, false) := by rw [← HX.out]; unfold entryJ; rw [if_pos (.inl h1)]
    refine wp_region_held (S := fun W => IJ gj gm w.heap.size js st sd kd dl en id n dt er W) (by kernel_rfl) ?_
    change wpAnyH _ _ _ _ _ _ _ _ (World.drew _)
    have hS : IJ gj gm w.heap.size js st sd kd dl en id n dt er w1.drew := ⟨E1, hj1⟩
    have J2 := J1.drew
    have k2 : KJ B w w1.drew := ⟨below_drewN k1.below 1, k1.keep⟩
    clear E1 hj1 J1 k1
    generalize w1.drew = w2 at *
    refine take_atH 0 6 hS rfl rfl (by kernel_rfl) (by kernel_rfl) (by kernel_rfl) (fun _ _ _ h => h) rfl (fun wq hq => by go_simp; first | done | with_reducible rfl) ?_
    simp only [Act.put, List.setIfInBounds_toArray, List.set_cons_zero, List.set_cons_succ]
    refine take_atH 1 7 hS rfl rfl (by kernel_rfl) (by kernel_rfl) (by kernel_rfl) (fun _ _ _ h => h) rfl (fun wq hq => by go_simp; first | done | with_reducible rfl) ?_
    simp only [Act.put, List.setIfInBounds_toArray, List.set_cons_zero, List.set_cons_succ]
    refine take_atH 2 8 hS rfl rfl (by kernel_rfl) (by kernel_rfl) (by kernel_rfl) (fun _ _ _ h => h) rfl (fun wq hq => by go_simp; first | done | with_reducible rfl) ?_
    simp only [Act.put, List.setIfInBounds_toArray, List.set_cons_zero, List.set_cons_succ]
    refine take_atH 3 9 hS rfl rfl (by kernel_rfl) (by kernel_rfl) (by kernel_rfl) (fun _ _ _ h => h) rfl (fun wq hq => by go_simp; first | done | with_reducible rfl) ?_
    simp only [Act.put, List.setIfInBounds_toArray, List.set_cons_zero, List.set_cons_succ]
    refine take_atH 4 10 hS rfl rfl (by kernel_rfl) (by kernel_rfl) (by kernel_rfl) (fun _ _ _ h => h) rfl (fun wq hq => by obtain ⟨c0, c1, c2, c3, c4, c5, c6, c7, c8, _⟩ := en_cells hq.e; obtain ⟨j0, j1, _⟩ := jd_cells hq.j; go_simp; first | done | with_reducible rfl) ?_
    simp only [Act.put, List.setIfInBounds_toArray, List.set_cons_zero, List.set_cons_succ]
    refine take_atH 5 11 hS rfl rfl (by kernel_rfl) (by kernel_rfl) (by kernel_rfl) (fun _ _ _ h => h) rfl (fun wq hq => by go_simp; first | done | with_reducible rfl) ?_
    simp only [Act.put, List.setIfInBounds_toArray, List.set_cons_zero, List.set_cons_succ]
    refine take_atH 6 12 hS rfl rfl (by kernel_rfl) (by kernel_rfl) (by kernel_rfl) (fun _ _ _ h => h) rfl (fun wq hq => by go_simp; first | done | with_reducible rfl) ?_
    simp only [Act.put, List.setIfInBounds_toArray, List.set_cons_zero, List.set_cons_succ]
    refine take_atH 7 13 hS rfl rfl (by kernel_rfl) (by kernel_rfl) (by kernel_rfl) (fun _ _ _ h => h) rfl (fun wq hq => by go_simp; first | done | with_reducible rfl) ?_
    simp only [Act.put, List.setIfInBounds_toArray, List.set_cons_zero, List.set_cons_succ]
    refine skip_atH 8 14 hS rfl rfl (by kernel_rfl) (by kernel_rfl) (by kernel_rfl) (fun _ _ _ h => h) rfl ?_
    simp only [Act.put, List.setIfInBounds_toArray, List.set_cons_zero, List.set_cons_succ]
    refine skip_atH 9 15 hS rfl rfl (by kernel_rfl) (by kernel_rfl) (by kernel_rfl) (fun _ _ _ h => h) rfl ?_
    simp only [Act.put, List.setIfInBounds_toArray, List.set_cons_zero, List.set_cons_succ]
    refine skip_atH 10 16 hS rfl rfl (by kernel_rfl) (by kernel_rfl) (by kernel_rfl) (fun _ _ _ h => h) rfl ?_
    simp only [Act.put, List.setIfInBounds_toArray, List.set_cons_zero, List.set_cons_succ]
    refine skip_atH 11 17 hS rfl rfl (by kernel_rfl) (by kernel_rfl) (by kernel_rfl) (fun _ _ _ h => h) rfl ?_
    simp only [Act.put, List.setIfInBounds_toArray, List.set_cons_zero, List.set_cons_succ]
    refine skip_atH 12 18 hS rfl rfl (by kernel_rfl) (by kernel_rfl) (by kernel_rfl) (fun _ _ _ h => h) rfl ?_
    simp only [Act.put, List.setIfInBounds_toArray, List.set_cons_zero, List.set_cons_succ]
    refine skip_atH 13 19 hS rfl rfl (by kernel_rfl) (by kernel_rfl) (by kernel_rfl) (fun _ _ _ h => h) rfl ?_
    simp only [Act.put, List.setIfInBounds_toArray, List.set_cons_zero, List.set_cons_succ]
    refine skip_atH 14 20 hS rfl rfl (by kernel_rfl) (by kernel_rfl) (by kernel_rfl) (fun _ _ _ h => h) rfl ?_
    simp only [Act.put, List.setIfInBounds_toArray, List.set_cons_zero, List.set_cons_succ]
    refine skip_atH 15 21 hS rfl rfl (by kernel_rfl) (by kernel_rfl) (by kernel_rfl) (fun _ _ _ h => h) rfl ?_
    simp only [Act.put, List.setIfInBounds_toArray, List.set_cons_zero, List.set_cons_succ]
    refine skip_atH 16 22 hS rfl rfl (by kernel_rfl) (by kernel_rfl) (by kernel_rfl) (fun _ _ _ h => h) rfl ?_
    simp only [Act.put, List.setIfInBounds_toArray, List.set_cons_zero, List.set_cons_succ]
    refine skip_atH 17 23 hS rfl rfl (by kernel_rfl) (by kernel_rfl) (by kernel_rfl) (fun _ _ _ h => h) rfl ?_
    simp only [Act.put, List.setIfInBounds_toArray, List.set_cons_zero, List.set_cons_succ]
    refine skip_atH 18 24 hS rfl rfl (by kernel_rfl) (by kernel_rfl) (by kernel_rfl) (fun _ _ _ h => h) rfl ?_
    simp only [Act.put, List.setIfInBounds_toArray, List.set_cons_zero, List.set_cons_succ]
    refine skip_atH 19 25 hS rfl rfl (by kernel_rfl) (by kernel_rfl) (by kernel_rfl) (fun _ _ _ h => h) rfl ?_
    simp only [Act.put, List.setIfInBounds_toArray, List.set_cons_zero, List.set_cons_succ]
    refine skip_atH 20 26 hS rfl rfl (by kernel_rfl) (by kernel_rfl) (by kernel_rfl) (fun _ _ _ h => h) rfl ?_
    simp only [Act.put, List.setIfInBounds_toArray, List.set_cons_zero, List.set_cons_succ]
    refine take_atH 21 27 hS rfl rfl (by kernel_rfl) (by kernel_rfl) (by kernel_rfl) (fun _ _ _ h => h) rfl (fun wq hq => by go_simp; first | done | with_reducible rfl) ?_
    simp only [Act.put, List.setIfInBounds_toArray, List.set_cons_zero, List.set_cons_succ]
    refine wpAnyH_done (by kernel_rfl) ?_ _
    go_wp2
    go_ret
    try rw [hX]
    first | exact ⟨L, rfl, J2, k2⟩ | exact ⟨rfl, ⟨L, J2⟩, k2⟩
  have h1' : ¬ (1 : Int) < (sd : Int) := by omega
  have hs : sd ≤ 1 := by omega
  cases hso : js.some with
  | true =>
    by_cases h2 : st < js.last
    · have hX : X = (js, false) := by rw [← HX.out]; unfold entryJ; rw [if_pos (.inr ⟨hso, h2⟩)]
      refine wp_region_held (S := fun W => IJ gj gm w.heap.size js st sd kd dl en id n dt er W) (by kernel_rfl) ?_
      change wpAnyH _ _ _ _ _ _ _ _ (World.drew _)
      have hS : IJ gj gm w.heap.size js st sd kd dl en id n dt er w1.drew := ⟨E1, hj1⟩
      have J2 := J1.drew
      have k2 : KJ B w w1.drew := ⟨below_drewN k1.below 1, k1.keep⟩
      clear E1 hj1 J1 k1
      generalize w1.drew = w2 at *
      refine take_atH 0 6 hS rfl rfl (by kernel_rfl) (by kernel_rfl) (by kernel_rfl) (fun _ _ _ h => h) rfl (fun wq hq => by go_simp; first | done | with_reducible rfl) ?_
      simp only [Act.put, List.setIfInBounds_toArray, List.set_cons_zero, List.set_cons_succ]
      refine take_atH 1 7 hS rfl rfl (by kernel_rfl) (by kernel_rfl) (by kernel_rfl) (fun _ _ _ h => h) rfl (fun wq hq => by go_simp; first | done | with_reducible rfl) ?_
      simp only [Act.put, List.setIfInBounds_toArray, List.set_cons_zero, List.set_cons_succ]
      refine take_atH 2 8 hS rfl rfl (by kernel_rfl) (by kernel_rfl) (by kernel_rfl) (fun _ _ _ h => h) rfl (fun wq hq => by go_simp; first | done | with_reducible rfl) ?_
      simp only [Act.put, List.setIfInBounds_toArray, List.set_cons_zero, List.set_cons_succ]
      refine take_atH 3 9 hS rfl rfl (by kernel_rfl) (by kernel_rfl) (by kernel_rfl) (fun _ _ _ h => h) rfl (fun wq hq => by go_simp; first | done | with_reducible rfl) ?_
      simp only [Act.put, List.setIfInBounds_toArray, List.set_cons_zero, List.set_cons_succ]
      refine take_atH 4 10 hS rfl rfl (by kernel_rfl) (by kernel_rfl) (by kernel_rfl) (fun _ _ _ h => h) rfl (fun wq hq => by obtain ⟨c0, c1, c2, c3, c4, c5, c6, c7, c8, _⟩ := en_cells hq.e; obtain ⟨j0, j1, _⟩ := jd_cells hq.j; go_simp; first | done | with_reducible rfl) ?_
      simp only [Act.put, List.setIfInBounds_toArray, List.set_cons_zero, List.set_cons_succ]
      refine take_atH 5 11 hS rfl rfl (by kernel_rfl) (by kernel_rfl) (by kernel_rfl) (fun _ _ _ h => h) rfl (fun wq hq => by go_simp; first | done | with_reducible rfl) ?_
      simp only [Act.put, List.setIfInBounds_toArray, List.set_cons_zero, List.set_cons_succ]
      refine take_atH 6 12 hS rfl rfl (by kernel_rfl) (by kernel_rfl) (by kernel_rfl) (fun _ _ _ h => h) rfl (fun wq hq => by go_simp; first | done | with_reducible rfl) ?_
      simp only [Act.put, List.setIfInBounds_toArray, List.set_cons_zero, List.set_cons_succ]
      refine take_atH 7 13 hS rfl rfl (by kernel_rfl) (by kernel_rfl) (by kernel_rfl) (fun _ _ _ h => h) rfl (fun wq hq => by go_simp; first | done | with_reducible rfl) ?_
      simp only [Act.put, List.setIfInBounds_toArray, List.set_cons_zero, List.set_cons_succ]
      refine take_atH 8 14 hS rfl rfl (by kernel_rfl) (by kernel_rfl) (by kernel_rfl) (fun _ _ _ h => h) rfl (fun wq hq => by go_simp; first | done | with_reducible rfl) ?_
      simp only [Act.put, List.setIfInBounds_toArray, List.set_cons_zero, List.set_cons_succ]
      refine take_atH 9 15 hS rfl rfl (by kernel_rfl) (by kernel_rfl) (by kernel_rfl) (fun _ _ _ h => h) rfl (fun wq hq => by go_simp; first | done | with_reducible rfl) ?_
      simp only [Act.put, List.setIfInBounds_toArray, List.set_cons_zero, List.set_cons_succ]
      refine take_atH 10 16 hS rfl rfl (by kernel_rfl) (by kernel_rfl) (by kernel_rfl) (fun _ _ _ h => h) rfl (fun wq hq => by go_simp; first | done | with_reducible rfl) ?_
      simp only [Act.put, List.setIfInBounds_toArray, List.set_cons_zero, List.set_cons_succ]
      refine take_atH 11 17 hS rfl rfl (by kernel_rfl) (by kernel_rfl) (by kernel_rfl) (fun _ _ _ h => h) rfl (fun wq hq => by obtain ⟨c0, c1, c2, c3, c4, c5, c6, c7, c8, _⟩ := en_cells hq.e; obtain ⟨j0, j1, _⟩ := jd_cells hq.j; go_simp; first | done | with_reducible rfl) ?_
      simp only [Act.put, List.setIfInBounds_toArray, List.set_cons_zero, List.set_cons_succ]
      refine take_atH 12 18 hS rfl rfl (by kernel_rfl) (by kernel_rfl) (by kernel_rfl) (fun _ _ _ h => h) rfl (fun wq hq => by go_simp; first | done | with_reducible rfl) ?_
      simp only [Act.put, List.setIfInBounds_toArray, List.set_cons_zero, List.set_cons_succ]
      refine take_atH 13 19 hS rfl rfl (by kernel_rfl) (by kernel_rfl) (by kernel_rfl) (fun _ _ _ h => h) rfl (fun wq hq => by go_simp; first | done | with_reducible rfl) ?_
      simp only [Act.put, List.setIfInBounds_toArray, List.set_cons_zero, List.set_cons_succ]
      refine take_atH 14 20 hS rfl rfl (by kernel_rfl) (by kernel_rfl) (by kernel_rfl) (fun _ _ _ h => h) rfl (fun wq hq => by obtain ⟨c0, c1, c2, c3, c4, c5, c6, c7, c8, _⟩ := en_cells hq.e; obtain ⟨j0, j1, _⟩ := jd_cells hq.j; go_simp; first | done | with_reducible rfl) ?_
      simp only [Act.put, List.setIfInBounds_toArray, List.set_cons_zero, List.set_cons_succ]
      refine take_atH 15 21 hS rfl rfl (by kernel_rfl) (by kernel_rfl) (by kernel_rfl) (fun _ _ _ h => h) rfl (fun wq hq => by go_simp; first | done | with_reducible rfl) ?_
      simp only [Act.put, List.setIfInBounds_toArray, List.set_cons_zero, List.set_cons_succ]
      refine take_atH 16 22 hS rfl rfl (by kernel_rfl) (by kernel_rfl) (by kernel_rfl) (fun _ _ _ h => h) rfl (fun wq hq => by go_simp; first | done | with_reducible rfl) ?_
      simp only [Act.put, List.setIfInBounds_toArray, List.set_cons_zero, List.set_cons_succ]
      refine take_atH 17 23 hS rfl rfl (by kernel_rfl) (by kernel_rfl) (by kernel_rfl) (fun _ _ _ h => h) rfl (fun wq hq => by go_simp; first | done | with_reducible rfl) ?_
      simp only [Act.put, List.setIfInBounds_toArray, List.set_cons_zero, List.set_cons_succ]
      refine take_atH 18 24 hS rfl rfl (by kernel_rfl) (by kernel_rfl) (by kernel_rfl) (fun _ _ _ h => h) rfl (fun wq hq => by obtain ⟨c0, c1, c2, c3, c4, c5, c6, c7, c8, _⟩ := en_cells hq.e; obtain ⟨j0, j1, _⟩ := jd_cells hq.j; go_simp; first | done | with_reducible rfl) ?_
      simp only [Act.put, List.setIfInBounds_toArray, List.set_cons_zero, List.set_cons_succ]
      refine take_atH 19 25 hS rfl rfl (by kernel_rfl) (by kernel_rfl) (by kernel_rfl) (fun _ _ _ h => h) rfl (fun wq hq => by go_simp; first | done | with_reducible rfl) ?_
      simp only [Act.put, List.setIfInBounds_toArray, List.set_cons_zero, List.set_cons_succ]
      refine take_atH 20 26 hS rfl rfl (by kernel_rfl) (by kernel_rfl) (by kernel_rfl) (fun _ _ _ h => h) rfl (fun wq hq => by go_simp; first | done | with_reducible rfl) ?_
      simp only [Act.put, List.setIfInBounds_toArray, List.set_cons_zero, List.set_cons_succ]
      refine take_atH 21 27 hS rfl rfl (by kernel_rfl) (by kernel_rfl) (by kernel_rfl) (fun _ _ _ h => h) rfl (fun wq hq => by go_simp; first | done | with_reducible rfl) ?_
      simp only [Act.put, List.setIfInBounds_toArray, List.set_cons_zero, List.set_cons_succ]
      refine wpAnyH_done (by kernel_rfl) ?_ _
      go_wp2
      go_ret
      try rw [hX]
      first | exact ⟨L, rfl, J2, k2⟩ | exact ⟨rfl, ⟨L, J2⟩, k2⟩
    · have hc : ¬ (1 < sd ∨ (js.some = true ∧ st < js.last)) := by rintro (h | h); exact h1 h; exact h2 h.2
      refine wp_region_held (S := fun W => IJ gj gm w.heap.size js st sd kd dl en id n dt er W) (by kernel_rfl) ?_
      change wpAnyH _ _ _ _ _ _ _ _ (World.drew _)
      have hS : IJ gj gm w.heap.size js st sd kd dl en id n dt er w1.drew := ⟨E1, hj1⟩
      have J2 := J1.drew
      have k2 : KJ B w w1.drew := ⟨below_drewN k1.below 1, k1.keep⟩
      clear E1 hj1 J1 k1
      generalize w1.drew = w2 at *
      refine take_atH 0 6 hS rfl rfl (by kernel_rfl) (by kernel_rfl) (by kernel_rfl) (fun _ _ _ h => h) rfl (fun wq hq => by go_simp; first | done | with_reducible rfl) ?_
      simp only [Act.put, List.setIfInBounds_toArray, List.set_cons_zero, List.set_cons_succ]
      refine take_atH 1 7 hS rfl rfl (by kernel_rfl) (by kernel_rfl) (by kernel_rfl) (fun _ _ _ h => h) rfl (fun wq hq => by go_simp; first | done | with_reducible rfl) ?_
      simp only [Act.put, List.setIfInBounds_toArray, List.set_cons_zero, List.set_cons_succ]
      refine take_atH 2 8 hS rfl rfl (by kernel_rfl) (by kernel_rfl) (by kernel_rfl) (fun _ _ _ h => h) rfl (fun wq hq => by go_simp; first | done | with_reducible rfl) ?_
      simp only [Act.put, List.setIfInBounds_toArray, List.set_cons_zero, List.set_cons_succ]
      refine take_atH 3 9 hS rfl rfl (by kernel_rfl) (by kernel_rfl) (by kernel_rfl) (fun _ _ _ h => h) rfl (fun wq hq => by go_simp; first | done | with_reducible rfl) ?_
      simp only [Act.put, List.setIfInBounds_toArray, List.set_cons_zero, List.set_cons_succ]
      refine take_atH 4 10 hS rfl rfl (by kernel_rfl) (by kernel_rfl) (by kernel_rfl) (fun _ _ _ h => h) rfl (fun wq hq => by obtain ⟨c0, c1, c2, c3, c4, c5, c6, c7, c8, _⟩ := en_cells hq.e; obtain ⟨j0, j1, _⟩ := jd_cells hq.j; go_simp; first | done | with_reducible rfl) ?_
      simp only [Act.put, List.setIfInBounds_toArray, List.set_cons_zero, List.set_cons_succ]
      refine take_atH 5 11 hS rfl rfl (by kernel_rfl) (by kernel_rfl) (by kernel_rfl) (fun _ _ _ h => h) rfl (fun wq hq => by go_simp; first | done | with_reducible rfl) ?_
      simp only [Act.put, List.setIfInBounds_toArray, List.set_cons_zero, List.set_cons_succ]
      refine take_atH 6 12 hS rfl rfl (by kernel_rfl) (by kernel_rfl) (by kernel_rfl) (fun _ _ _ h => h) rfl (fun wq hq => by go_simp; first | done | with_reducible rfl) ?_
      simp only [Act.put, List.setIfInBounds_toArray, List.set_cons_zero, List.set_cons_succ]
      refine take_atH 7 13 hS rfl rfl (by kernel_rfl) (by kernel_rfl) (by kernel_rfl) (fun _ _ _ h => h) rfl (fun wq hq => by go_simp; first | done | with_reducible rfl) ?_
      simp only [Act.put, List.setIfInBounds_toArray, List.set_cons_zero, List.set_cons_succ]
      refine take_atH 8 14 hS rfl rfl (by kernel_rfl) (by kernel_rfl) (by kernel_rfl) (fun _ _ _ h => h) rfl (fun wq hq => by go_simp; first | done | with_reducible rfl) ?_
      simp only [Act.put, List.setIfInBounds_toArray, List.set_cons_zero, List.set_cons_succ]
      refine take_atH 9 15 hS rfl rfl (by kernel_rfl) (by kernel_rfl) (by kernel_rfl) (fun _ _ _ h => h) rfl (fun wq hq => by go_simp; first | done | with_reducible rfl) ?_
      simp only [Act.put, List.setIfInBounds_toArray, List.set_cons_zero, List.set_cons_succ]
      refine take_atH 10 16 hS rfl rfl (by kernel_rfl) (by kernel_rfl) (by kernel_rfl) (fun _ _ _ h => h) rfl (fun wq hq => by go_simp; first | done | with_reducible rfl) ?_
      simp only [Act.put, List.setIfInBounds_toArray, List.set_cons_zero, List.set_cons_succ]
      refine take_atH 11 17 hS rfl rfl (by kernel_rfl) (by kernel_rfl) (by kernel_rfl) (fun _ _ _ h => h) rfl (fun wq hq => by obtain ⟨c0, c1, c2, c3, c4, c5, c6, c7, c8, _⟩ := en_cells hq.e; obtain ⟨j0, j1, _⟩ := jd_cells hq.j; go_simp; first | done | with_reducible rfl) ?_
      simp only [Act.put, List.setIfInBounds_toArray, List.set_cons_zero, List.set_cons_succ]
      refine take_atH 12 18 hS rfl rfl (by kernel_rfl) (by kernel_rfl) (by kernel_rfl) (fun _ _ _ h => h) rfl (fun wq hq => by go_simp; first | done | with_reducible rfl) ?_
      simp only [Act.put, List.setIfInBounds_toArray, List.set_cons_zero, List.set_cons_succ]
      refine take_atH 13 19 hS rfl rfl (by kernel_rfl) (by kernel_rfl) (by kernel_rfl) (fun _ _ _ h => h) rfl (fun wq hq => by go_simp; first | done | with_reducible rfl) ?_
      simp only [Act.put, List.setIfInBounds_toArray, List.set_cons_zero, List.set_cons_succ]
      refine take_atH 14 20 hS rfl rfl (by kernel_rfl) (by kernel_rfl) (by kernel_rfl) (fun _ _ _ h => h) rfl (fun wq hq => by obtain ⟨c0, c1, c2, c3, c4, c5, c6, c7, c8, _⟩ := en_cells hq.e; obtain ⟨j0, j1, _⟩ := jd_cells hq.j; go_simp; first | done | with_reducible rfl) ?_
      simp only [Act.put, List.setIfInBounds_toArray, List.set_cons_zero, List.set_cons_succ]
      refine take_atH 15 21 hS rfl rfl (by kernel_rfl) (by kernel_rfl) (by kernel_rfl) (fun _ _ _ h => h) rfl (fun wq hq => by go_simp; first | done | with_reducible rfl) ?_
      simp only [Act.put, List.setIfInBounds_toArray, List.set_cons_zero, List.set_cons_succ]
      refine take_atH 16 22 hS rfl rfl (by kernel_rfl) (by kernel_rfl) (by kernel_rfl) (fun _ _ _ h => h) rfl (fun wq hq => by go_simp; first | done | with_reducible rfl) ?_
      simp only [Act.put, List.setIfInBounds_toArray, List.set_cons_zero, List.set_cons_succ]
      refine take_atH 17 23 hS rfl rfl (by kernel_rfl) (by kernel_rfl) (by kernel_rfl) (fun _ _ _ h => h) rfl (fun wq hq => by go_simp; first | done | with_reducible rfl) ?_
      simp only [Act.put, List.setIfInBounds_toArray, List.set_cons_zero, List.set_cons_succ]
      refine take_atH 18 24 hS rfl rfl (by kernel_rfl) (by kernel_rfl) (by kernel_rfl) (fun _ _ _ h => h) rfl (fun wq hq => by obtain ⟨c0, c1, c2, c3, c4, c5, c6, c7, c8, _⟩ := en_cells hq.e; obtain ⟨j0, j1, _⟩ := jd_cells hq.j; go_simp; first | done | with_reducible rfl) ?_
      simp only [Act.put, List.setIfInBounds_toArray, List.set_cons_zero, List.set_cons_succ]
      refine take_atH 19 25 hS rfl rfl (by kernel_rfl) (by kernel_rfl) (by kernel_rfl) (fun _ _ _ h => h) rfl (fun wq hq => by go_simp; first | done | with_reducible rfl) ?_
      simp only [Act.put, List.setIfInBounds_toArray, List.set_cons_zero, List.set_cons_succ]
      refine take_atH 20 26 hS rfl rfl (by kernel_rfl) (by kernel_rfl) (by kernel_rfl) (fun _ _ _ h => h) rfl (fun wq hq => by go_simp; first | done | with_reducible rfl) ?_
      simp only [Act.put, List.setIfInBounds_toArray, List.set_cons_zero, List.set_cons_succ]
      refine take_atH 21 27 hS rfl rfl (by kernel_rfl) (by kernel_rfl) (by kernel_rfl) (fun _ _ _ h => h) rfl (fun wq hq => by go_simp; first | done | with_reducible rfl) ?_
      simp only [Act.put, List.setIfInBounds_toArray, List.set_cons_zero, List.set_cons_succ]
      refine wpAnyH_done (by kernel_rfl) ?_ _
      have E2 := hS.e
      have hj2 := hS.j
      obtain ⟨c0, c1, c2, c3, c4, c5, c6, c7, c8, _⟩ := en_cells E2
      clear hS
      cases en with
      | true =>
        obtain ⟨Z, hZ⟩ : ∃ Z, endsJ js ⟨st, sd, kd, dl, true, id, n, dt, er⟩ = Z := ⟨_, rfl⟩
        have HC := hide (ends_any B gj js L st sd kd dl true id n dt er w2 hs (hb hs) hdt J2)
        rw [hZ] at HC
        obtain ⟨js3, ok⟩ := Z
        dsimp only at HC
        have hX : X = if ok = false then (js3, false) else (⟨st, true, js3.recs⟩, true) := by rw [← HX.out]; unfold entryJ; rw [if_neg hc]; simp only [if_true, Bool.false_eq_true, if_false, hZ]
        have HX2 := hide hX
        clear HX hX hZ
        go_wp2_with fail
        refine HC.out.mono ?_
        rintro e w3 ⟨L3, rfl, J3, k3⟩
        have E3 := k3.keep _ _ _ _ E2 (by decide) (by decide)
        replace k3 := k2.trans k3
        obtain ⟨gm3, _, hj3, _⟩ := J3.row
        obtain ⟨c0, c1, c2, c3, c4, c5, c6, c7, c8, _⟩ := en_cells E3
        obtain ⟨j0, j1, f0, f1⟩ := jd_cells hj3
        clear HC E2 hj2 J2 k2
        cases ok with
        | false =>
          have hX : X = (js3, false) := by rw [HX2.out]; rfl
          clear HX2
          go_wp2
          go_ret
          try rw [hX]
          first | exact ⟨L3, rfl, J3, k3⟩ | exact ⟨rfl, ⟨L3, J3⟩, k3⟩
        | true =>
          have hX : X = (⟨st, true, js3.recs⟩, true) := by rw [HX2.out]; rfl
          clear HX2
          have hj4 : (w3.setCell ⟨gj, 0, none⟩ (.int .i64 st)).heap[gj]? = some (.cells #[.int .i64 st, .bool js3.some, .map (some gm3)] 50 (0, 0)) := blk_set hj3 0 (.int .i64 st)
          have hj5 : ((w3.setCell ⟨gj, 0, none⟩ (.int .i64 st)).setCell ⟨gj, 1, none⟩ (.bool true)).heap[gj]? = some (.cells #[.int .i64 st, .bool true, .map (some gm3)] 50 (0, 0)) := blk_set hj4 1 (.bool true)
          have J5 := J3.setJ hj3 hj5 (fun j hj => (Below.heap_setCell _ ⟨gj, 1, none⟩ _ j hj).trans (Below.heap_setCell _ ⟨gj, 0, none⟩ _ j hj))
          have k5 := (k3.setJ J3.ge hj3 (.int .i64 st) (q := 0)).setJ J3.ge hj4 (.bool true) (q := 1)
          go_wp2
          go_ret
          try rw [hX]
          first | exact ⟨L3, rfl, J5, k5⟩ | exact ⟨rfl, ⟨L3, J5⟩, k5⟩
      | false =>
        obtain ⟨Z, hZ⟩ : ∃ Z, beginsJ js ⟨st, sd, kd, dl, false, id, n, dt, er⟩ = Z := ⟨_, rfl⟩
        have HC := hide (begins_any B gj js L st sd kd dl false id n dt er w2 hs (by omega) J2)
        rw [hZ] at HC
        obtain ⟨js3, ok⟩ := Z
        dsimp only at HC
        have hX : X = if ok = false then (js3, false) else (⟨st, true, js3.recs⟩, true) := by rw [← HX.out]; unfold entryJ; rw [if_neg hc]; simp only [if_true, Bool.false_eq_true, if_false, hZ]
        have HX2 := hide hX
        clear HX hX hZ
        go_wp2_with fail
        refine HC.out.mono ?_
        rintro e w3 ⟨L3, rfl, J3, k3⟩
        have E3 := k3.keep _ _ _ _ E2 (by decide) (by decide)
        replace k3 := k2.trans k3
        obtain ⟨gm3, _, hj3, _⟩ := J3.row
        obtain ⟨c0, c1, c2, c3, c4, c5, c6, c7, c8, _⟩ := en_cells E3
        obtain ⟨j0, j1, f0, f1⟩ := jd_cells hj3
        clear HC E2 hj2 J2 k2
        cases ok with
        | false =>
          have hX : X = (js3, false) := by rw [HX2.out]; rfl
          clear HX2
          go_wp2
          go_ret
          try rw [hX]
          first | exact ⟨L3, rfl, J3, k3⟩ | exact ⟨rfl, ⟨L3, J3⟩, k3⟩
        | true =>
          have hX : X = (⟨st, true, js3.recs⟩, true) := by rw [HX2.out]; rfl
          clear HX2
          have hj4 : (w3.setCell ⟨gj, 0, none⟩ (.int .i64 st)).heap[gj]? = some (.cells #[.int .i64 st, .bool js3.some, .map (some gm3)] 50 (0, 0)) := blk_set hj3 0 (.int .i64 st)
          have hj5 : ((w3.setCell ⟨gj, 0, none⟩ (.int .i64 st)).setCell ⟨gj, 1, none⟩ (.bool true)).heap[gj]? = some (.cells #[.int .i64 st, .bool true, .map (some gm3)] 50 (0, 0)) := blk_set hj4 1 (.bool true)
          have J5 := J3.setJ hj3 hj5 (fun j hj => (Below.heap_setCell _ ⟨gj, 1, none⟩ _ j hj).trans (Below.heap_setCell _ ⟨gj, 0, none⟩ _ j hj))
          have k5 := (k3.setJ J3.ge hj3 (.int .i64 st) (q := 0)).setJ J3.ge hj4 (.bool true) (q := 1)
          go_wp2
          go_ret
          try rw [hX]
          first | exact ⟨L3, rfl, J5, k5⟩ | exact ⟨rfl, ⟨L3, J5⟩, k5⟩
  | false =>
    have hc : ¬ (1 < sd ∨ (js.some = true ∧ st < js.last)) := by rintro (h | h); exact h1 h; rw [hso] at h; cases h.1
    refine wp_region_held (S := fun W => IJ gj gm w.heap.size js st sd kd dl en id n dt er W) (by kernel_rfl) ?_
    change wpAnyH _ _ _ _ _ _ _ _ (World.drew _)
    have hS : IJ gj gm w.heap.size js st sd kd dl en id n dt er w1.drew := ⟨E1, hj1⟩
    have J2 := J1.drew
    have k2 : KJ B w w1.drew := ⟨below_drewN k1.below 1, k1.keep⟩
    clear E1 hj1 J1 k1
    generalize w1.drew = w2 at *
    refine take_atH 0 6 hS rfl rfl (by kernel_rfl) (by kernel_rfl) (by kernel_rfl) (fun _ _ _ h => h) rfl (fun wq hq => by go_simp; first | done | with_reducible rfl) ?_
    simp only [Act.put, List.setIfInBounds_toArray, List.set_cons_zero, List.set_cons_succ]
    refine take_atH 1 7 hS rfl rfl (by kernel_rfl) (by kernel_rfl) (by kernel_rfl) (fun _ _ _ h => h) rfl (fun wq hq => by go_simp; first | done | with_reducible rfl) ?_
    simp only [Act.put, List.setIfInBounds_toArray, List.set_cons_zero, List.set_cons_succ]
    refine take_atH 2 8 hS rfl rfl (by kernel_rfl) (by kernel_rfl) (by kernel_rfl) (fun _ _ _ h => h) rfl (fun wq hq => by go_simp; first | done | with_reducible rfl) ?_
    simp only [Act.put, List.setIfInBounds_toArray, List.set_cons_zero, List.set_cons_succ]
    refine take_atH 3 9 hS rfl rfl (by kernel_rfl) (by kernel_rfl) (by kernel_rfl) (fun _ _ _ h => h) rfl (fun wq hq => by go_simp; first | done | with_reducible rfl) ?_
    simp only [Act.put, List.setIfInBounds_toArray, List.set_cons_zero, List.set_cons_succ]
    refine take_atH 4 10 hS rfl rfl (by kernel_rfl) (by kernel_rfl) (by kernel_rfl) (fun _ _ _ h => h) rfl (fun wq hq => by obtain ⟨c0, c1, c2, c3, c4, c5, c6, c7, c8, _⟩ := en_cells hq.e; obtain ⟨j0, j1, _⟩ := jd_cells hq.j; go_simp; first | done | with_reducible rfl) ?_
    simp only [Act.put, List.setIfInBounds_toArray, List.set_cons_zero, List.set_cons_succ]
    refine take_atH 5 11 hS rfl rfl (by kernel_rfl) (by kernel_rfl) (by kernel_rfl) (fun _ _ _ h => h) rfl (fun wq hq => by go_simp; first | done | with_reducible rfl) ?_
    simp only [Act.put, List.setIfInBounds_toArray, List.set_cons_zero, List.set_cons_succ]
    refine take_atH 6 12 hS rfl rfl (by kernel_rfl) (by kernel_rfl) (by kernel_rfl) (fun _ _ _ h => h) rfl (fun wq hq => by go_simp; first | done | with_reducible rfl) ?_
    simp only [Act.put, List.setIfInBounds_toArray, List.set_cons_zero, List.set_cons_succ]
    refine take_atH 7 13 hS rfl rfl (by kernel_rfl) (by kernel_rfl) (by kernel_rfl) (fun _ _ _ h => h) rfl (fun wq hq => by go_simp; first | done | with_reducible rfl) ?_
    simp only [Act.put, List.setIfInBounds_toArray, List.set_cons_zero, List.set_cons_succ]
    refine take_atH 8 14 hS rfl rfl (by kernel_rfl) (by kernel_rfl) (by kernel_rfl) (fun _ _ _ h => h) rfl (fun wq hq => by go_simp; first | done | with_reducible rfl) ?_
    simp only [Act.put, List.setIfInBounds_toArray, List.set_cons_zero, List.set_cons_succ]
    refine take_atH 9 15 hS rfl rfl (by kernel_rfl) (by kernel_rfl) (by kernel_rfl) (fun _ _ _ h => h) rfl (fun wq hq => by go_simp; first | done | with_reducible rfl) ?_
    simp only [Act.put, List.setIfInBounds_toArray, List.set_cons_zero, List.set_cons_succ]
    refine take_atH 10 16 hS rfl rfl (by kernel_rfl) (by kernel_rfl) (by kernel_rfl) (fun _ _ _ h => h) rfl (fun wq hq => by go_simp; first | done | with_reducible rfl) ?_
    simp only [Act.put, List.setIfInBounds_toArray, List.set_cons_zero, List.set_cons_succ]
    refine take_atH 11 17 hS rfl rfl (by kernel_rfl) (by kernel_rfl) (by kernel_rfl) (fun _ _ _ h => h) rfl (fun wq hq => by obtain ⟨c0, c1, c2, c3, c4, c5, c6, c7, c8, _⟩ := en_cells hq.e; obtain ⟨j0, j1, _⟩ := jd_cells hq.j; go_simp; first | done | with_reducible rfl) ?_
    simp only [Act.put, List.setIfInBounds_toArray, List.set_cons_zero, List.set_cons_succ]
    refine take_atH 12 18 hS rfl rfl (by kernel_rfl) (by kernel_rfl) (by kernel_rfl) (fun _ _ _ h => h) rfl (fun wq hq => by go_simp; first | done | with_reducible rfl) ?_
    simp only [Act.put, List.setIfInBounds_toArray, List.set_cons_zero, List.set_cons_succ]
    refine skip_atH 13 19 hS rfl rfl (by kernel_rfl) (by kernel_rfl) (by kernel_rfl) (fun _ _ _ h => h) rfl ?_
    simp only [Act.put, List.setIfInBounds_toArray, List.set_cons_zero, List.set_cons_succ]
    refine skip_atH 14 20 hS rfl rfl (by kernel_rfl) (by kernel_rfl) (by kernel_rfl) (fun _ _ _ h => h) rfl ?_
    simp only [Act.put, List.setIfInBounds_toArray, List.set_cons_zero, List.set_cons_succ]
    refine skip_atH 15 21 hS rfl rfl (by kernel_rfl) (by kernel_rfl) (by kernel_rfl) (fun _ _ _ h => h) rfl ?_
    simp only [Act.put, List.setIfInBounds_toArray, List.set_cons_zero, List.set_cons_succ]
    refine skip_atH 16 22 hS rfl rfl (by kernel_rfl) (by kernel_rfl) (by kernel_rfl) (fun _ _ _ h => h) rfl ?_
    simp only [Act.put, List.setIfInBounds_toArray, List.set_cons_zero, List.set_cons_succ]
    refine skip_atH 17 23 hS rfl rfl (by kernel_rfl) (by kernel_rfl) (by kernel_rfl) (fun _ _ _ h => h) rfl ?_
    simp only [Act.put, List.setIfInBounds_toArray, List.set_cons_zero, List.set_cons_succ]
    refine skip_atH 18 24 hS rfl rfl (by kernel_rfl) (by kernel_rfl) (by kernel_rfl) (fun _ _ _ h => h) rfl ?_
    simp only [Act.put, List.setIfInBounds_toArray, List.set_cons_zero, List.set_cons_succ]
    refine skip_atH 19 25 hS rfl rfl (by kernel_rfl) (by kernel_rfl) (by kernel_rfl) (fun _ _ _ h => h) rfl ?_
    simp only [Act.put, List.setIfInBounds_toArray, List.set_cons_zero, List.set_cons_succ]
    refine take_atH 20 26 hS rfl rfl (by kernel_rfl) (by kernel_rfl) (by kernel_rfl) (fun _ _ _ h => h) rfl (fun wq hq => by go_simp; first | done | with_reducible rfl) ?_
    simp only [Act.put, List.setIfInBounds_toArray, List.set_cons_zero, List.set_cons_succ]
    refine take_atH 21 27 hS rfl rfl (by kernel_rfl) (by kernel_rfl) (by kernel_rfl) (fun _ _ _ h => h) rfl (fun wq hq => by go_simp; first | done | with_reducible rfl) ?_
    simp only [Act.put, List.setIfInBounds_toArray, List.set_cons_zero, List.set_cons_succ]
    refine wpAnyH_done (by kernel_rfl) ?_ _
    have E2 := hS.e
    have hj2 := hS.j
    obtain ⟨c0, c1, c2, c3, c4, c5, c6, c7, c8, _⟩ := en_cells E2
    clear hS
    cases en with
    | true =>
      obtain ⟨Z, hZ⟩ : ∃ Z, endsJ js ⟨st, sd, kd, dl, true, id, n, dt, er⟩ = Z := ⟨_, rfl⟩
      have HC := hide (ends_any B gj js L st sd kd dl true id n dt er w2 hs (hb hs) hdt J2)
      rw [hZ] at HC
      obtain ⟨js3, ok⟩ := Z
      dsimp only at HC
      have hX : X = if ok = false then (js3, false) else (⟨st, true, js3.recs⟩, true) := by rw [← HX.out]; unfold entryJ; rw [if_neg hc]; simp only [if_true, Bool.false_eq_true, if_false, hZ]
      have HX2 := hide hX
      clear HX hX hZ
      go_wp2_with fail
      refine HC.out.mono ?_
      rintro e w3 ⟨L3, rfl, J3, k3⟩
      have E3 := k3.keep _ _ _ _ E2 (by decide) (by decide)
      replace k3 := k2.trans k3
      obtain ⟨gm3, _, hj3, _⟩ := J3.row
      obtain ⟨c0, c1, c2, c3, c4, c5, c6, c7, c8, _⟩ := en_cells E3
      obtain ⟨j0, j1, f0, f1⟩ := jd_cells hj3
      clear HC E2 hj2 J2 k2
      cases ok with
      | false =>
        have hX : X = (js3, false) := by rw [HX2.out]; rfl
        clear HX2
        go_wp2
        go_ret
        try rw [hX]
        first | exact ⟨L3, rfl, J3, k3⟩ | exact ⟨rfl, ⟨L3, J3⟩, k3⟩
      | true =>
        have hX : X = (⟨st, true, js3.recs⟩, true) := by rw [HX2.out]; rfl
        clear HX2
        have hj4 : (w3.setCell ⟨gj, 0, none⟩ (.int .i64 st)).heap[gj]? = some (.cells #[.int .i64 st, .bool js3.some, .map (some gm3)] 50 (0, 0)) := blk_set hj3 0 (.int .i64 st)
        have hj5 : ((w3.setCell ⟨gj, 0, none⟩ (.int .i64 st)).setCell ⟨gj, 1, none⟩ (.bool true)).heap[gj]? = some (.cells #[.int .i64 st, .bool true, .map (some gm3)] 50 (0, 0)) := blk_set hj4 1 (.bool true)
        have J5 := J3.setJ hj3 hj5 (fun j hj => (Below.heap_setCell _ ⟨gj, 1, none⟩ _ j hj).trans (Below.heap_setCell _ ⟨gj, 0, none⟩ _ j hj))
        have k5 := (k3.setJ J3.ge hj3 (.int .i64 st) (q := 0)).setJ J3.ge hj4 (.bool true) (q := 1)
        go_wp2
        go_ret
        try rw [hX]
        first | exact ⟨L3, rfl, J5, k5⟩ | exact ⟨rfl, ⟨L3, J5⟩, k5⟩
    | false =>
      obtain ⟨Z, hZ⟩ : ∃ Z, beginsJ js ⟨st, sd, kd, dl, false, id, n, dt, er⟩ = Z := ⟨_, rfl⟩
      have HC := hide (begins_any B gj js L st sd kd dl false id n dt er w2 hs (by omega) J2)
      rw [hZ] at HC
      obtain ⟨js3, ok⟩ := Z
      dsimp only at HC
      have hX : X = if ok = false then (js3, false) else (⟨st, true, js3.recs⟩, true) := by rw [← HX.out]; unfold entryJ; rw [if_neg hc]; simp only [if_true, Bool.false_eq_true, if_false, hZ]
      have HX2 := hide hX
      clear HX hX hZ
      go_wp2_with fail
      refine HC.out.mono ?_
      rintro e w3 ⟨L3, rfl, J3, k3⟩
      have E3 := k3.keep _ _ _ _ E2 (by decide) (by decide)
      replace k3 := k2.trans k3
      obtain ⟨gm3, _, hj3, _⟩ := J3.row
      obtain ⟨c0, c1, c2, c3, c4, c5, c6, c7, c8, _⟩ := en_cells E3
      obtain ⟨j0, j1, f0, f1⟩ := jd_cells hj3
      clear HC E2 hj2 J2 k2
      cases ok with
      | false =>
        have hX : X = (js3, false) := by rw [HX2.out]; rfl
        clear HX2
        go_wp2
        go_ret
        try rw [hX]
        first | exact ⟨L3, rfl, J3, k3⟩ | exact ⟨rfl, ⟨L3, J3⟩, k3⟩
      | true =>
        have hX : X = (⟨st, true, js3.recs⟩, true) := by rw [HX2.out]; rfl
        clear HX2
        have hj4 : (w3.setCell ⟨gj, 0, none⟩ (.int .i64 st)).heap[gj]? = some (.cells #[.int .i64 st, .bool js3.some, .map (some gm3)] 50 (0, 0)) := blk_set hj3 0 (.int .i64 st)
        have hj5 : ((w3.setCell ⟨gj, 0, none⟩ (.int .i64 st)).setCell ⟨gj, 1, none⟩ (.bool true)).heap[gj]? = some (.cells #[.int .i64 st, .bool true, .map (some gm3)] 50 (0, 0)) := blk_set hj4 1 (.bool true)
        have J5 := J3.setJ hj3 hj5 (fun j hj => (Below.heap_setCell _ ⟨gj, 1, none⟩ _ j hj).trans (Below.heap_setCell _ ⟨gj, 0, none⟩ _ j hj))
        have k5 := (k3.setJ J3.ge hj3 (.int .i64 st) (q := 0)).setJ J3.ge hj4 (.bool true) (q := 1)
        go_wp2
        go_ret
        try rw [hX]
        first | exact ⟨L3, rfl, J5, k5⟩ | exact ⟨rfl, ⟨L3, J5⟩, k5⟩
end Go.Proofs.Ytkikonknciffiaa
