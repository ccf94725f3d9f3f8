/- The document's word on a beginning: the walk. -/
import Derived.Test.YtkikonknciffiaaHsRefW
namespace Go.Proofs.Ytkikonknciffiaa
open Go.RowKit
set_option linter.unusedVariables false
set_option linter.unusedSimpArgs false

/-- An entry's block, of the document's kind. -/
abbrev RnBlk (w : World) (g : Nat) (st : Int) (sd kd dl : Nat) (en : Bool) (id nn : Int) (dt : ByteArray) (er : Int) : Prop := w.heap[g]? = some (.cells #[.int .i64 st, .int .u8 (sd : Int), .int .u8 (kd : Int), .int .u8 (dl : Int), .bool en, .int .i64 id, .int .i64 nn, .string dt, .int .i64 er] 36 (0, 0))
theorem rn_cells {w : World} {g : Nat} {st : Int} {sd kd dl : Nat} {en : Bool} {id nn : Int} {dt : ByteArray} {er : Int} (h : RnBlk w g st sd kd dl en id nn dt er) : w.cell? ⟨g, 0, none⟩ = some (.int .i64 st) ∧ w.cell? ⟨g, 1, none⟩ = some (.int .u8 (sd : Int)) ∧ w.cell? ⟨g, 2, none⟩ = some (.int .u8 (kd : Int)) ∧ w.cell? ⟨g, 3, none⟩ = some (.int .u8 (dl : Int)) ∧ w.cell? ⟨g, 4, none⟩ = some (.bool en) ∧ w.cell? ⟨g, 5, none⟩ = some (.int .i64 id) ∧ w.cell? ⟨g, 6, none⟩ = some (.int .i64 nn) ∧ w.cell? ⟨g, 7, none⟩ = some (.string dt) ∧ w.cell? ⟨g, 8, none⟩ = some (.int .i64 er) := by
  have hc : ∀ q, w.cell? ⟨g, q, none⟩ = (#[.int .i64 st, .int .u8 (sd : Int), .int .u8 (kd : Int), .int .u8 (dl : Int), .bool en, .int .i64 id, .int .i64 nn, .string dt, .int .i64 er] : Array Value)[q]? := fun q => by simp only [World.cell?, h]; rfl
  exact ⟨hc 0, hc 1, hc 2, hc 3, hc 4, hc 5, hc 6, hc 7, hc 8⟩
theorem RnBlk.below {w w' : World} {g : Nat} {st : Int} {sd kd dl : Nat} {en : Bool} {id nn : Int} {dt : ByteArray} {er : Int} (h : RnBlk w g st sd kd dl en id nn dt er) (b : Below w.heap.size w w') : RnBlk w' g st sd kd dl en id nn dt er := (b.block g (Array.getElem?_eq_some_iff.1 h).1).trans h
set_option maxRecDepth 100000 in
set_option maxHeartbeats 4000000 in
theorem rbegins_any (a : Option Addr) (n ca : Nat) (z : Nat → En) (st : Int) (sd kd dl : Nat) (en : Bool) (id nn : Int) (dt : ByteArray) (er : Int) (w : World) (hE : HoldsE w a n z) (hn : n ≤ 1000) :
    Calls Try.prog 20 #[.slice a n ca, .agg #[.int .i64 st, .int .u8 (sd : Int), .int .u8 (kd : Int), .int .u8 (dl : Int), .bool en, .int .i64 id, .int .i64 nn, .string dt, .int .i64 er]] w fun e w' => e = .returned (.bool (beginsR z n ⟨st, sd, kd, dl, en, id, nn, dt, er⟩)) ∧ Below w.heap.size w w' := by
  have b1 := (Below.refl w.heap.size w).alloc (Nat.le_refl _) (.cells #[.int .i64 st, .int .u8 (sd : Int), .int .u8 (kd : Int), .int .u8 (dl : Int), .bool en, .int .i64 id, .int .i64 nn, .string dt, .int .i64 er] 36)
  have E1 : RnBlk (w.alloc (.cells #[.int .i64 st, .int .u8 (sd : Int), .int .u8 (kd : Int), .int .u8 (dl : Int), .bool en, .int .i64 id, .int .i64 nn, .string dt, .int .i64 er] 36)) w.heap.size st sd kd dl en id nn dt er := World.alloc_heap_new w _
  have hE1 := hE.below b1
  obtain ⟨c0, c1, c2, c3, c4, c5, c6, c7, c8⟩ := rn_cells E1
  clear hE
  obtain ⟨X, hX⟩ : ∃ X, beginsR z n ⟨st, sd, kd, dl, en, id, nn, dt, er⟩ = X := ⟨_, rfl⟩
  rw [hX]
  have HX := hide hX
  clear hX
  go_enter Try.func20, Try.ntmps20
  go_upto_region 1 with (fail)
  generalize w.alloc (.cells #[.int .i64 st, .int .u8 (sd : Int), .int .u8 (kd : Int), .int .u8 (dl : Int), .bool en, .int .i64 id, .int .i64 nn, .string dt, .int .i64 er] 36) = w1 at *
  go_cut [5] (fun s5 wx => s5 = .bool (known kd) ∧ w1 = wx)
  case first =>
    by_cases h0 : 1 ≤ kd
    · have h0' : (1 : Int) ≤ (kd : Int) := by omega
      by_cases h2 : kd ≤ 5
      · have h2' : (kd : Int) ≤ 5 := by omega
        go_wp2
        go_meet
        exact ⟨by simp [known, h0, h2], rfl⟩
      · have h2' : ¬ (kd : Int) ≤ 5 := by omega
        go_wp2
        go_meet
        exact ⟨by simp [known, h2], rfl⟩
    · have h0' : ¬ (1 : Int) ≤ (kd : Int) := by omega
      go_wp2
      go_meet
      exact ⟨by simp [known, h0], rfl⟩
  case rest =>
  obtain ⟨rfl, rfl⟩ := hcut
  by_cases hid : id = st
  · have hc0 : ¬ (id ≠ st) := fun x => x hid
    have hid1 : (id == st) = true := by rw [hid]; simp
    cases hk : known kd with
    | false =>
      by_cases h2 : er = 2
      · have h2' : (er == 2) = true := by rw [h2]; rfl
        have hR : X = true := by rw [← HX.out]; unfold beginsR; rw [if_neg hc0, if_pos hk]; simp [h2]
        go_wp2
        go_ret
        exact ⟨by first | rfl | (rw [hR]; rfl), b1⟩
      · have h2' : (er == 2) = false := beq_eq_false_iff_ne.2 h2
        have hR : X = false := by rw [← HX.out]; unfold beginsR; rw [if_neg hc0, if_pos hk]; simp [h2]
        go_wp2
        go_ret
        exact ⟨by first | rfl | (rw [hR]; rfl), b1⟩
    | true =>
      have hkn : ¬ known kd = false := by rw [hk]; simp
      by_cases h3 : er = 263
      · have h3' : (er == 263) = true := by rw [h3]; rfl
        have hR : X = (decide (dl = 0) || (decide (dl = 62) || decide (63 < dl))) := by rw [← HX.out]; unfold beginsR; rw [if_neg hc0, if_neg hkn, if_pos h3]
        by_cases d0 : dl = 0
        · have d0' : ((dl : Int) == 0) = true := by rw [d0]; rfl
          go_wp2
          go_ret
          exact ⟨by first | rfl | (rw [hR]; rfl) | (rw [hR]; simp [d0]; done) | (rw [hR]; simp [d0]; rfl) | (simp [d0]; done) | (simp [d0]; rfl), b1⟩
        · have d0' : ((dl : Int) == 0) = false := beq_eq_false_iff_ne.2 (by omega)
          by_cases d1 : dl = 62
          · have d1' : ((dl : Int) == 62) = true := by rw [d1]; rfl
            go_wp2
            go_ret
            exact ⟨by first | rfl | (rw [hR]; rfl) | (rw [hR]; simp [d1]; done) | (rw [hR]; simp [d1]; rfl) | (simp [d1]; done) | (simp [d1]; rfl), b1⟩
          · have d1' : ((dl : Int) == 62) = false := beq_eq_false_iff_ne.2 (by omega)
            by_cases d2 : 63 < dl
            · have d2' : (63 : Int) < (dl : Int) := by omega
              go_wp2
              go_ret
              exact ⟨by first | rfl | (rw [hR]; rfl) | (rw [hR]; simp [d2]; done) | (rw [hR]; simp [d2]; rfl) | (simp [d2]; done) | (simp [d2]; rfl), b1⟩
            · have d2' : ¬ (63 : Int) < (dl : Int) := by omega
              go_wp2
              go_ret
              exact ⟨by first | rfl | (rw [hR]; rfl) | (rw [hR]; simp [d0, d1, d2]; done) | (rw [hR]; simp [d0, d1, d2]; rfl) | (simp [d0, d1, d2]; done) | (simp [d0, d1, d2]; rfl), b1⟩
      have h3' : (er == 263) = false := beq_eq_false_iff_ne.2 h3
      by_cases d0 : dl = 0
      · have d0' : ((dl : Int) == 0) = true := by rw [d0]; rfl
        have hR : X = false := by rw [← HX.out]; unfold beginsR; rw [if_neg hc0, if_neg hkn, if_neg h3, if_pos (.inl d0)]
        go_wp2
        go_ret
        exact ⟨by first | rfl | (rw [hR]; rfl), b1⟩
      have d0' : ((dl : Int) == 0) = false := beq_eq_false_iff_ne.2 (by omega)
      by_cases d2 : 63 < dl
      · have d2' : (63 : Int) < (dl : Int) := by omega
        have hR : X = false := by rw [← HX.out]; unfold beginsR; rw [if_neg hc0, if_neg hkn, if_neg h3, if_pos (.inr d2)]
        go_wp2
        go_ret
        exact ⟨by first | rfl | (rw [hR]; rfl), b1⟩
      have d2' : ¬ (63 : Int) < (dl : Int) := by omega
      have hd : ¬ (dl = 0 ∨ 63 < dl) := by omega
      have HQ := hide (rwaits_any a n ca z sd dl kd w1 hE1 hn)
      go_wp2_with fail
      refine HQ.out.mono ?_
      rintro e w2 ⟨rfl, b2⟩
      have bw2 := below_step b1 (Nat.le_refl _) b2
      have hE2 := hE1.below b2
      have E2 := E1.below b2
      obtain ⟨c0, c1, c2, c3, c4, c5, c6, c7, c8⟩ := rn_cells E2
      clear b2 hE1 E1 HQ
      obtain ⟨q, hq⟩ : ∃ q, waitsP z sd dl kd n = q := ⟨_, rfl⟩
      rw [hq]
      by_cases h4 : er = 262
      · have h4' : (er == 262) = true := by rw [h4]; rfl
        have hR : X = (!decide (q < 0) || (decide (kd = 1) && (openedP z 0 dl n || openedP z 1 dl n))) := by rw [← HX.out]; unfold beginsR; rw [if_neg hc0, if_neg hkn, if_neg h3, if_neg hd, if_pos h4, hq]
        by_cases hf : q < 0
        · by_cases k1 : kd = 1
          · have k1' : ((kd : Int) == 1) = true := by rw [k1]; rfl
            have HQ0 := hide (ropened_any a n ca z 0 dl w2 hE2 hn)
            go_wp2_with fail
            refine HQ0.out.mono ?_
            rintro e w3 ⟨rfl, b3⟩
            have bw3 := below_step bw2 (Nat.le_refl _) b3
            have hE3 := hE2.below b3
            have E3 := E2.below b3
            obtain ⟨c0, c1, c2, c3, c4, c5, c6, c7, c8⟩ := rn_cells E3
            have HQ1 := hide (ropened_any a n ca z 1 dl w3 hE3 hn)
            cases o0 : openedP z 0 dl n with
            | true =>
              rw [o0] at hR
              go_wp2
              go_ret
              exact ⟨by first | rfl | (rw [hR]; rfl) | (rw [hR]; simp [hf, k1]; done) | (rw [hR]; simp [hf, k1]; rfl) | (simp [hf, k1]; done) | (simp [hf, k1]; rfl), bw3⟩
            | false =>
              rw [o0] at hR
              go_wp2_with fail
              refine HQ1.out.mono ?_
              rintro e w4 ⟨rfl, b4⟩
              have bw4 := below_step bw3 (Nat.le_refl _) b4
              go_wp2
              go_ret
              exact ⟨by first | rfl | (rw [hR]; rfl) | (rw [hR]; simp [hf, k1]; done) | (rw [hR]; simp [hf, k1]; rfl) | (simp [hf, k1]; done) | (simp [hf, k1]; rfl), bw4⟩
          · have k1' : ((kd : Int) == 1) = false := beq_eq_false_iff_ne.2 (by omega)
            go_wp2
            go_ret
            exact ⟨by first | rfl | (rw [hR]; rfl) | (rw [hR]; simp [hf, k1]; done) | (rw [hR]; simp [hf, k1]; rfl) | (simp [hf, k1]; done) | (simp [hf, k1]; rfl), bw2⟩
        · have hf' : ¬ q < 0 := hf
          go_wp2
          go_ret
          exact ⟨by first | rfl | (rw [hR]; rfl) | (rw [hR]; simp [hf]; done) | (rw [hR]; simp [hf]; rfl) | (simp [hf]; done) | (simp [hf]; rfl), bw2⟩
      have h4' : (er == 262) = false := beq_eq_false_iff_ne.2 h4
      have hR : X = (decide (er = 0) && decide (q < 0)) := by rw [← HX.out]; unfold beginsR; rw [if_neg hc0, if_neg hkn, if_neg h3, if_neg hd, if_neg h4, hq]
      by_cases h5 : er = 0
      · have h5' : (er == 0) = true := by rw [h5]; rfl
        by_cases hf : q < 0
        · skip
          go_wp2
          go_ret
          exact ⟨by first | rfl | (rw [hR]; rfl) | (rw [hR]; simp [h5, hf]; done) | (rw [hR]; simp [h5, hf]; rfl) | (simp [h5, hf]; done) | (simp [h5, hf]; rfl), bw2⟩
        · skip
          go_wp2
          go_ret
          exact ⟨by first | rfl | (rw [hR]; rfl) | (rw [hR]; simp [h5, hf]; done) | (rw [hR]; simp [h5, hf]; rfl) | (simp [h5, hf]; done) | (simp [h5, hf]; rfl), bw2⟩
      · have h5' : (er == 0) = false := beq_eq_false_iff_ne.2 h5
        go_wp2
        go_ret
        exact ⟨by first | rfl | (rw [hR]; rfl) | (rw [hR]; simp [h5]; done) | (rw [hR]; simp [h5]; rfl) | (simp [h5]; done) | (simp [h5]; rfl), bw2⟩
  · have hid' : (id == st) = false := beq_eq_false_iff_ne.2 hid
    have hR : X = false := by rw [← HX.out]; unfold beginsR; rw [if_pos hid]
    go_wp2
    go_ret
    exact ⟨by first | rfl | (rw [hR]; rfl), b1⟩
end Go.Proofs.Ytkikonknciffiaa
