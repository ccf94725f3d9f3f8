/- meets, closed: the walks. -/
import Derived.Test.YtkikonknciffiaaHsBeg
namespace Go.Proofs.Ytkikonknciffiaa
open Go.RowKit
set_option linter.unusedVariables false
set_option linter.unusedSimpArgs false

theorem str_ne {a : ByteArray} (h : a ≠ ⟨#[]⟩) : (¬ a.toList = []) ∧ (a.toList == []) = false ∧ a.toList.isEmpty = false ∧ (decide (a.toList = [])) = false := by
  have h1 : ¬ a.toList = [] := by
    intro e
    rw [ByteArray.toList_eq] at e
    obtain ⟨⟨l⟩⟩ := a
    subst e
    exact h rfl
  refine ⟨h1, beq_eq_false_iff_ne.2 h1, ?_, decide_eq_false h1⟩
  cases hl : a.toList with
  | nil => exact absurd hl h1
  | cons x l => rfl
/-- A place and two entries, boxed. -/
theorem box3 {B gj : Nat} {js : JS} {L : List (Nat × Nat × Nat)} {w : World} (h : JAt B gj js L w) (s d : Nat) (sta : Int) (sda kda dla : Nat) (ena : Bool) (ida na : Int) (dta : ByteArray) (era : Int) (st : Int) (sd kd dl : Nat) (en : Bool) (id n : Int) (dt : ByteArray) (er : Int) :
    JAt B gj js L (((w.alloc (.cells #[.int .u8 (s : Int), .int .u8 (d : Int)] 62)).alloc (.cells #[.int .i64 sta, .int .u8 (sda : Int), .int .u8 (kda : Int), .int .u8 (dla : Int), .bool ena, .int .i64 ida, .int .i64 na, .string dta, .int .i64 era] 38)).alloc (.cells #[.int .i64 st, .int .u8 (sd : Int), .int .u8 (kd : Int), .int .u8 (dl : Int), .bool en, .int .i64 id, .int .i64 n, .string dt, .int .i64 er] 38)) ∧ KJ B w (((w.alloc (.cells #[.int .u8 (s : Int), .int .u8 (d : Int)] 62)).alloc (.cells #[.int .i64 sta, .int .u8 (sda : Int), .int .u8 (kda : Int), .int .u8 (dla : Int), .bool ena, .int .i64 ida, .int .i64 na, .string dta, .int .i64 era] 38)).alloc (.cells #[.int .i64 st, .int .u8 (sd : Int), .int .u8 (kd : Int), .int .u8 (dl : Int), .bool en, .int .i64 id, .int .i64 n, .string dt, .int .i64 er] 38)) ∧ (((w.alloc (.cells #[.int .u8 (s : Int), .int .u8 (d : Int)] 62)).alloc (.cells #[.int .i64 sta, .int .u8 (sda : Int), .int .u8 (kda : Int), .int .u8 (dla : Int), .bool ena, .int .i64 ida, .int .i64 na, .string dta, .int .i64 era] 38)).alloc (.cells #[.int .i64 st, .int .u8 (sd : Int), .int .u8 (kd : Int), .int .u8 (dl : Int), .bool en, .int .i64 id, .int .i64 n, .string dt, .int .i64 er] 38)).heap[w.heap.size]? = some (.cells #[.int .u8 (s : Int), .int .u8 (d : Int)] 62 (0, 0)) ∧ EnBlk (((w.alloc (.cells #[.int .u8 (s : Int), .int .u8 (d : Int)] 62)).alloc (.cells #[.int .i64 sta, .int .u8 (sda : Int), .int .u8 (kda : Int), .int .u8 (dla : Int), .bool ena, .int .i64 ida, .int .i64 na, .string dta, .int .i64 era] 38)).alloc (.cells #[.int .i64 st, .int .u8 (sd : Int), .int .u8 (kd : Int), .int .u8 (dl : Int), .bool en, .int .i64 id, .int .i64 n, .string dt, .int .i64 er] 38)) (w.heap.size + 1) sta sda kda dla ena ida na dta era ∧ EnBlk (((w.alloc (.cells #[.int .u8 (s : Int), .int .u8 (d : Int)] 62)).alloc (.cells #[.int .i64 sta, .int .u8 (sda : Int), .int .u8 (kda : Int), .int .u8 (dla : Int), .bool ena, .int .i64 ida, .int .i64 na, .string dta, .int .i64 era] 38)).alloc (.cells #[.int .i64 st, .int .u8 (sd : Int), .int .u8 (kd : Int), .int .u8 (dl : Int), .bool en, .int .i64 id, .int .i64 n, .string dt, .int .i64 er] 38)) (w.heap.size + 2) st sd kd dl en id n dt er := by
  have hB : B ≤ w.heap.size := Nat.le_trans h.ge (Nat.le_of_lt h.lt)
  have b1 := ((Below.refl w.heap.size w).alloc (Nat.le_refl _) (.cells #[.int .u8 (s : Int), .int .u8 (d : Int)] 62)).alloc (by simp) (.cells #[.int .i64 sta, .int .u8 (sda : Int), .int .u8 (kda : Int), .int .u8 (dla : Int), .bool ena, .int .i64 ida, .int .i64 na, .string dta, .int .i64 era] 38) |>.alloc (by simp; omega) (.cells #[.int .i64 st, .int .u8 (sd : Int), .int .u8 (kd : Int), .int .u8 (dl : Int), .bool en, .int .i64 id, .int .i64 n, .string dt, .int .i64 er] 38)
  have a0 := World.alloc_heap_new w (.cells #[.int .u8 (s : Int), .int .u8 (d : Int)] 62)
  have a1 := World.alloc_heap_new (w.alloc (.cells #[.int .u8 (s : Int), .int .u8 (d : Int)] 62)) (.cells #[.int .i64 sta, .int .u8 (sda : Int), .int .u8 (kda : Int), .int .u8 (dla : Int), .bool ena, .int .i64 ida, .int .i64 na, .string dta, .int .i64 era] 38)
  have a2 := World.alloc_heap_new ((w.alloc (.cells #[.int .u8 (s : Int), .int .u8 (d : Int)] 62)).alloc (.cells #[.int .i64 sta, .int .u8 (sda : Int), .int .u8 (kda : Int), .int .u8 (dla : Int), .bool ena, .int .i64 ida, .int .i64 na, .string dta, .int .i64 era] 38)) (.cells #[.int .i64 st, .int .u8 (sd : Int), .int .u8 (kd : Int), .int .u8 (dl : Int), .bool en, .int .i64 id, .int .i64 n, .string dt, .int .i64 er] 38)
  rw [World.size_alloc] at a1
  rw [World.size_alloc, World.size_alloc] at a2
  exact ⟨((h.alloc _).alloc _).alloc _, KJ.ofBelow hB b1, (Below.heap_alloc _ _ _ (by simp; omega)).trans ((Below.heap_alloc _ _ _ (by simp)).trans a0), (Below.heap_alloc _ _ _ (by simp)).trans a1, a2⟩
set_option maxRecDepth 100000 in
set_option maxHeartbeats 4000000 in
theorem closed_any (B gj : Nat) (js : JS) (L : List (Nat × Nat × Nat)) (s d : Nat) (sta : Int) (sda kda dla : Nat) (ena : Bool) (ida na : Int) (dta : ByteArray) (era : Int) (st : Int) (sd kd dl : Nat) (en : Bool) (id n : Int) (dt : ByteArray) (er : Int) (w : World) (h : JAt B gj js L w) :
    Calls Try.prog 39 #[.pointer (some ⟨gj, 0, none⟩), .agg #[.int .u8 (s : Int), .int .u8 (d : Int)], .agg #[.int .i64 sta, .int .u8 (sda : Int), .int .u8 (kda : Int), .int .u8 (dla : Int), .bool ena, .int .i64 ida, .int .i64 na, .string dta, .int .i64 era], .agg #[.int .i64 st, .int .u8 (sd : Int), .int .u8 (kd : Int), .int .u8 (dl : Int), .bool en, .int .i64 id, .int .i64 n, .string dt, .int .i64 er]] w fun e w' => ∃ L', e = .returned (.bool (closedJ js ⟨st, sd, kd, dl, en, id, n, dt, er⟩).2) ∧ JAt B gj (closedJ js ⟨st, sd, kd, dl, en, id, n, dt, er⟩).1 L' w' ∧ KJ B w w' ∧ ∀ x ∈ L, x ∈ L' := by
  obtain ⟨J1, k1, P1, A1, E1⟩ := box3 h s d sta sda kda dla ena ida na dta era st sd kd dl en id n dt er
  have hB : B ≤ w.heap.size := Nat.le_trans h.ge (Nat.le_of_lt h.lt)
  clear h
  obtain ⟨p0, p1⟩ := plc_cells P1
  obtain ⟨c0, c1, c2, c3, c4, c5, c6, c7, c8, _⟩ := en_cells E1
  obtain ⟨X, hX⟩ : ∃ X, closedJ js ⟨st, sd, kd, dl, en, id, n, dt, er⟩ = X := ⟨_, rfl⟩
  rw [hX]
  have HX := hide hX
  clear hX
  go_enter Try.func39, Try.ntmps39
  go_upto_region 1 with (fail)
  generalize ((w.alloc (.cells #[.int .u8 (s : Int), .int .u8 (d : Int)] 62)).alloc (.cells #[.int .i64 sta, .int .u8 (sda : Int), .int .u8 (kda : Int), .int .u8 (dla : Int), .bool ena, .int .i64 ida, .int .i64 na, .string dta, .int .i64 era] 38)).alloc (.cells #[.int .i64 st, .int .u8 (sd : Int), .int .u8 (kd : Int), .int .u8 (dl : Int), .bool en, .int .i64 id, .int .i64 n, .string dt, .int .i64 er] 38) = w1 at *
  by_cases h0 : n = 0
  · subst h0
    by_cases h1 : dt = ⟨#[]⟩
    · subst h1
      by_cases h2 : er = 0
      · subst h2
        go_wp2
        go_ret
        rw [← HX.out]
        first | exact ⟨L, by simp [closedJ], J1, k1, (by first | exact fun x hx => hx | exact fun a b c h => h)⟩ | exact ⟨by simp [closedJ], L, J1, k1, (by first | exact fun x hx => hx | exact fun a b c h => h)⟩
      · have h2' : (er == 0) = false := beq_eq_false_iff_ne.2 h2
        by_cases h3 : er = 261
        · subst h3
          go_wp2
          go_ret
          rw [← HX.out]
          first | exact ⟨L, by simp [closedJ], J1, k1, (by first | exact fun x hx => hx | exact fun a b c h => h)⟩ | exact ⟨by simp [closedJ], L, J1, k1, (by first | exact fun x hx => hx | exact fun a b c h => h)⟩
        · have h3' : (er == 261) = false := beq_eq_false_iff_ne.2 h3
          go_wp2
          go_ret
          rw [← HX.out]
          first | exact ⟨L, by simp [closedJ, h2, h3], J1, k1, (by first | exact fun x hx => hx | exact fun a b c h => h)⟩ | exact ⟨by simp [closedJ, h2, h3], L, J1, k1, (by first | exact fun x hx => hx | exact fun a b c h => h)⟩
    · obtain ⟨h1', h1a, h1b, h1c⟩ := str_ne h1
      go_wp2
      go_ret
      rw [← HX.out]
      first | exact ⟨L, by simp [closedJ, h1], J1, k1, (by first | exact fun x hx => hx | exact fun a b c h => h)⟩ | exact ⟨by simp [closedJ, h1], L, J1, k1, (by first | exact fun x hx => hx | exact fun a b c h => h)⟩
  · have h0' : (n == 0) = false := beq_eq_false_iff_ne.2 h0
    go_wp2
    go_ret
    rw [← HX.out]
    first | exact ⟨L, by simp [closedJ, h0], J1, k1, (by first | exact fun x hx => hx | exact fun a b c h => h)⟩ | exact ⟨by simp [closedJ, h0], L, J1, k1, (by first | exact fun x hx => hx | exact fun a b c h => h)⟩
set_option maxRecDepth 100000 in
set_option maxHeartbeats 4000000 in
theorem meets_any (B gj : Nat) (js : JS) (L : List (Nat × Nat × Nat)) (s d : Nat) (sta : Int) (sda kda dla : Nat) (ena : Bool) (ida na : Int) (dta : ByteArray) (era : Int) (st : Int) (sd kd dl : Nat) (en : Bool) (id n : Int) (dt : ByteArray) (er : Int) (w : World) (hs : s ≤ 1) (h : JAt B gj js L w) :
    Calls Try.prog 36 #[.pointer (some ⟨gj, 0, none⟩), .agg #[.int .u8 (s : Int), .int .u8 (d : Int)], .agg #[.int .i64 sta, .int .u8 (sda : Int), .int .u8 (kda : Int), .int .u8 (dla : Int), .bool ena, .int .i64 ida, .int .i64 na, .string dta, .int .i64 era], .agg #[.int .i64 st, .int .u8 (sd : Int), .int .u8 (kd : Int), .int .u8 (dl : Int), .bool en, .int .i64 id, .int .i64 n, .string dt, .int .i64 er]] w fun e w' => ∃ L', e = .returned (.bool (meetsJ js s d ⟨st, sd, kd, dl, en, id, n, dt, er⟩).2) ∧ JAt B gj (meetsJ js s d ⟨st, sd, kd, dl, en, id, n, dt, er⟩).1 L' w' ∧ KJ B w w' ∧ ∀ x ∈ L, x ∈ L' := by
  obtain ⟨J1, k1, P1, A1, E1⟩ := box3 h s d sta sda kda dla ena ida na dta era st sd kd dl en id n dt er
  have hB : B ≤ w.heap.size := Nat.le_trans h.ge (Nat.le_of_lt h.lt)
  clear h
  obtain ⟨p0, p1⟩ := plc_cells P1
  obtain ⟨c0, c1, c2, c3, c4, c5, c6, c7, c8, _⟩ := en_cells E1
  obtain ⟨X, hX⟩ : ∃ X, meetsJ js s d ⟨st, sd, kd, dl, en, id, n, dt, er⟩ = X := ⟨_, rfl⟩
  rw [hX]
  have HX := hide hX
  clear hX
  go_enter Try.func36, Try.ntmps36
  go_upto_region 1 with (fail)
  generalize ((w.alloc (.cells #[.int .u8 (s : Int), .int .u8 (d : Int)] 62)).alloc (.cells #[.int .i64 sta, .int .u8 (sda : Int), .int .u8 (kda : Int), .int .u8 (dla : Int), .bool ena, .int .i64 ida, .int .i64 na, .string dta, .int .i64 era] 38)).alloc (.cells #[.int .i64 st, .int .u8 (sd : Int), .int .u8 (kd : Int), .int .u8 (dl : Int), .bool en, .int .i64 id, .int .i64 n, .string dt, .int .i64 er] 38) = w1 at *
  go_wp2_with fail
  refine (record_any B gj js L s d w1 J1).mono ?_
  rintro e w3 ⟨g, L3, rfl, J3, hm3, hL3, k3⟩
  have E3 := k3.keep _ _ _ _ E1 (by decide) (by decide)
  have P3 := k3.keep _ _ _ _ P1 (by decide) (by decide)
  replace k3 := k1.trans k3
  obtain ⟨c0, c1, c2, c3, c4, c5, c6, c7, c8, f7⟩ := en_cells E3
  obtain ⟨p0, p1⟩ := plc_cells P3
  obtain ⟨hg, R3⟩ := J3.recs.blk _ hm3
  dsimp only at hg R3
  obtain ⟨r0, r1, r2, r3, r4, fz⟩ := rc_fields R3
  clear J1 k1 E1 P1 A1
  by_cases h0 : n = 0
  · subst h0
    by_cases h1 : dt = ⟨#[]⟩
    · subst h1
      have hc : ¬ ((0 : Int) ≠ 0 ∨ (⟨#[]⟩ : ByteArray) ≠ ⟨#[]⟩) := by simp
      go_wp2_with fail
      refine (hended_any er w3).mono ?_
      rintro e w4 ⟨rfl, rfl⟩
      cases he : endedE er with
      | true =>
        have hX : X = (js.upd s d { js.recs s d with over := true }, true) := by rw [← HX.out]; unfold meetsJ; rw [if_neg hc, if_pos he]
        have R4 : RcBlk (w3.setCell ⟨g, 55, none⟩ (.bool true)) g { js.recs s d with over := true } := blk_set R3 55 (.bool true)
        have J4 := J3.turn hm3 R4 (fun j hj => Below.heap_setCell _ ⟨g, 55, none⟩ _ j hj)
        have k4 := k3.set hg R3 (.bool true) (q := 55)
        go_wp2
        go_ret
        rw [hX]
        first | exact ⟨L3, rfl, J4, k4, (by first | exact hL3 | exact fun a b c h => hL3 (a, b, c) h)⟩ | exact ⟨rfl, L3, J4, k4, (by first | exact hL3 | exact fun a b c h => hL3 (a, b, c) h)⟩
      | false =>
        have he' : ¬ (endedE er = true) := by rw [he]; simp
        by_cases h2 : kd = 2 ∧ er = 262
        · obtain ⟨rfl, rfl⟩ := h2
          have hX : X = (js, true) := by rw [← HX.out]; unfold meetsJ; rw [if_neg hc, if_neg he', if_pos ⟨rfl, rfl⟩]
          go_wp2
          go_ret
          rw [hX]
          first | exact ⟨L3, rfl, J3, k3, (by first | exact hL3 | exact fun a b c h => hL3 (a, b, c) h)⟩ | exact ⟨rfl, L3, J3, k3, (by first | exact hL3 | exact fun a b c h => hL3 (a, b, c) h)⟩
        have hX : X = (js, decide (er = 0) && (!(js.recs s d).over && (decide (kd = 1) || (js.recs (1 - s) d).opened))) := by rw [← HX.out]; unfold meetsJ; rw [if_neg hc, if_neg he', if_neg h2]
        clear HX
        by_cases h3 : er = 0
        · subst h3
          cases hv : (js.recs s d).over with
          | true =>
            rw [hv] at hX r1
            by_cases h4 : kd = 2
            · subst h4
              go_wp2
              go_ret
              rw [hX]
              first | exact ⟨L3, rfl, J3, k3, (by first | exact hL3 | exact fun a b c h => hL3 (a, b, c) h)⟩ | exact ⟨rfl, L3, J3, k3, (by first | exact hL3 | exact fun a b c h => hL3 (a, b, c) h)⟩
            · have h4' : ((kd : Int) == 2) = false := beq_eq_false_iff_ne.2 (by omega)
              go_wp2
              go_ret
              rw [hX]
              first | exact ⟨L3, rfl, J3, k3, (by first | exact hL3 | exact fun a b c h => hL3 (a, b, c) h)⟩ | exact ⟨rfl, L3, J3, k3, (by first | exact hL3 | exact fun a b c h => hL3 (a, b, c) h)⟩
          | false =>
            rw [hv] at hX r1
            by_cases h5 : kd = 1
            · subst h5
              go_wp2
              go_ret
              rw [hX]
              first | exact ⟨L3, rfl, J3, k3, (by first | exact hL3 | exact fun a b c h => hL3 (a, b, c) h)⟩ | exact ⟨rfl, L3, J3, k3, (by first | exact hL3 | exact fun a b c h => hL3 (a, b, c) h)⟩
            · have h5' : ((kd : Int) == 1) = false := beq_eq_false_iff_ne.2 (by omega)
              by_cases h4 : kd = 2
              · subst h4
                go_wp2_with fail
                refine (other_any B gj js L3 s d w3 hs J3).mono ?_
                rintro e w4 ⟨g4, L4, rfl, J4, hm4, hL4, k4⟩
                obtain ⟨hg4, R4⟩ := J4.recs.blk _ hm4
                dsimp only at hg4 R4
                obtain ⟨r0', r1', r2', r3', r4', _⟩ := rc_fields R4
                go_wp2
                go_ret
                rw [hX]
                first | exact ⟨L4, by simp, J4, k3.trans k4, (by first | exact fun x hx => hL4 x (hL3 x hx) | exact fun a b c h => hL4 (a, b, c) (hL3 (a, b, c) h))⟩ | exact ⟨by simp, L4, J4, k3.trans k4, (by first | exact fun x hx => hL4 x (hL3 x hx) | exact fun a b c h => hL4 (a, b, c) (hL3 (a, b, c) h))⟩
              · have h4' : ((kd : Int) == 2) = false := beq_eq_false_iff_ne.2 (by omega)
                go_wp2_with fail
                refine (other_any B gj js L3 s d w3 hs J3).mono ?_
                rintro e w4 ⟨g4, L4, rfl, J4, hm4, hL4, k4⟩
                obtain ⟨hg4, R4⟩ := J4.recs.blk _ hm4
                dsimp only at hg4 R4
                obtain ⟨r0', r1', r2', r3', r4', _⟩ := rc_fields R4
                go_wp2
                go_ret
                rw [hX]
                first | exact ⟨L4, by simp [h5], J4, k3.trans k4, (by first | exact fun x hx => hL4 x (hL3 x hx) | exact fun a b c h => hL4 (a, b, c) (hL3 (a, b, c) h))⟩ | exact ⟨by simp [h5], L4, J4, k3.trans k4, (by first | exact fun x hx => hL4 x (hL3 x hx) | exact fun a b c h => hL4 (a, b, c) (hL3 (a, b, c) h))⟩
        · have h3' : (er == 0) = false := beq_eq_false_iff_ne.2 h3
          by_cases h4 : kd = 2
          · have h4' : ((kd : Int) == 2) = true := by rw [h4]; rfl
            have h6' : (er == 262) = false := beq_eq_false_iff_ne.2 (fun h => h2 ⟨h4, h⟩)
            go_wp2
            go_ret
            rw [hX]
            first | exact ⟨L3, by simp [h3], J3, k3, (by first | exact hL3 | exact fun a b c h => hL3 (a, b, c) h)⟩ | exact ⟨by simp [h3], L3, J3, k3, (by first | exact hL3 | exact fun a b c h => hL3 (a, b, c) h)⟩
          · have h4' : ((kd : Int) == 2) = false := beq_eq_false_iff_ne.2 (by omega)
            go_wp2
            go_ret
            rw [hX]
            first | exact ⟨L3, by simp [h3], J3, k3, (by first | exact hL3 | exact fun a b c h => hL3 (a, b, c) h)⟩ | exact ⟨by simp [h3], L3, J3, k3, (by first | exact hL3 | exact fun a b c h => hL3 (a, b, c) h)⟩
    · obtain ⟨h1', h1a, h1b, h1c⟩ := str_ne h1
      have hX : X = (js, false) := by rw [← HX.out]; unfold meetsJ; rw [if_pos (.inr h1)]
      go_wp2
      go_ret
      rw [hX]
      first | exact ⟨L3, rfl, J3, k3, (by first | exact hL3 | exact fun a b c h => hL3 (a, b, c) h)⟩ | exact ⟨rfl, L3, J3, k3, (by first | exact hL3 | exact fun a b c h => hL3 (a, b, c) h)⟩
  · have h0' : (n == 0) = false := beq_eq_false_iff_ne.2 h0
    have hX : X = (js, false) := by rw [← HX.out]; unfold meetsJ; rw [if_pos (.inl h0)]
    go_wp2
    go_ret
    rw [hX]
    first | exact ⟨L3, rfl, J3, k3, (by first | exact hL3 | exact fun a b c h => hL3 (a, b, c) h)⟩ | exact ⟨rfl, L3, J3, k3, (by first | exact hL3 | exact fun a b c h => hL3 (a, b, c) h)⟩
end Go.Proofs.Ytkikonknciffiaa
