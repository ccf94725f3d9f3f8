/- HistoryKnown: the walk. -/
import Derived.Test.YtkikonknciffiaaHsKnB
import Derived.Deep.CutBlock
namespace Go.Proofs.Ytkikonknciffiaa
open Go.RowKit
set_option linter.unusedVariables false
set_option linter.unusedSimpArgs false

set_option maxRecDepth 100000 in
set_option maxHeartbeats 8000000 in
theorem known_any (w : World) :
    Calls Try.prog 7 #[] w fun e w' => e = .returned (.bool true) ∧ Below w.heap.size w w' := by
  obtain ⟨i0, hi0, hz0, hz1, hz2⟩ := info_parts wrldrow
  go_enter Try.func7, Try.ntmps7
  go_upto_region 1 with (fail)
  go_cut [1] (fun s1 wx => s1 = .slice (some ⟨w.heap.size, 0, none⟩) 16 16 ∧ HoldsE wx (some ⟨w.heap.size, 0, none⟩) 16 (zl knL) ∧ Below w.heap.size w wx ∧ w.heap.size < wx.heap.size)
  case first =>
    go_wp2
    go_meet
    exact ⟨rfl, holds_new w _ _ 16 (zl knL) rfl, (Below.refl w.heap.size w).alloc (Nat.le_refl _) _, by rw [World.size_alloc]; omega⟩
  case rest =>
  obtain ⟨rfl, hH, b1, hl1⟩ := hcut
  go_wp2_with fail
  refine (hacc_is _ 16 16 (zl knL) _ hH (by decide) ok_kn 16 true ex_kn).mono ?_
  rintro e w2 ⟨rfl, b2⟩
  have bw2 := below_step b1 (Nat.le_refl _) b2
  have hH2 := hH.below b2
  have hhl := Nat.lt_of_lt_of_le hl1 b2.size
  clear hH b2 b1 hl1
  have hB2 : w.heap.size ≤ w2.heap.size := bw2.size
  have hB2' : w.heap.size ≤ w.heap.size := Nat.le_refl _
  obtain ⟨hb, hhb⟩ : ∃ hb, w.heap.size = hb := ⟨_, rfl⟩
  rw [hhb] at hH2 hhl ⊢
  obtain ⟨z, hz⟩ : ∃ z, zl knL = z := ⟨_, rfl⟩
  have hbd := bd_kn
  rw [hz] at hH2 hbd
  have HBD := hide hbd
  have HH := hide hH2
  have BW2 := hide bw2
  clear hz hbd hH2 bw2
  go_wp2
  go_loopw [4, 5, 6, 7] (fun i _ _ _ wr => ∃ k : Nat, k ≤ 16 ∧ i = .int .i64 (k : Int) ∧ Below w2.heap.size w2 wr) (fun i _ _ _ _ => 16 - (intOf i).toNat)
  case atStart => exact ⟨0, by omega, rfl, Below.refl _ _⟩
  case round =>
    obtain ⟨k, hk, rfl, bk⟩ := hrel
    by_cases hk1 : k < 16
    · have hk1' : (k : Int) < 16 := by omega
      go_wp2
      go_loopw [5, 6, 7] (fun i _ _ wq => ∃ k2 : Nat, k2 ≤ 12 ∧ i = .int .i64 (k2 : Int) ∧ Below w2.heap.size w2 wq) (fun i _ _ _ => 12 - (intOf i).toNat)
      case atStart => exact ⟨0, by omega, rfl, bk⟩
      case round =>
        obtain ⟨k2, hk2, rfl, bq⟩ := hrel
        by_cases hk3 : k2 < 12
        · have hk3' : (k2 : Int) < 12 := by omega
          have hH3 := HH.out.below bq
          obtain ⟨e, hze⟩ : ∃ e, z k = e := ⟨_, rfl⟩
          have hbk := HBD.out k hk1
          rw [hze] at hbk
          have HZE := hide hze
          clear hze
          obtain ⟨st, sd, kd, dl, en, id, nn, dt, er⟩ := e
          go_upto_region 14 with (at_builtin; refine wpList_append_own_at _ rfl (.tmp 49) (.tmp 50) 22 rfl w2.heap.size 38 i0 zV 9 56 Try.underlying22 hi0 hz0 hz1 hz2 rfl (by decide) _ _ _ rfl (World.ownsRow_nil _ _ _ _) ⟨hb, 0, none⟩ 16 16 (rowC z 16) rfl (rowC_length z 16) hH3.cells (rowC_one z 16) (by unfold maxLen; omega) (by omega) bq.size ?_; intro v' w3 hown hgrow _ hat; have b3 : Below w2.heap.size w2 w3 := bq.grown hgrow bq.size (fun k e => by cases e); have hown2 : OwnR w3 w2.heap.size 38 v' 16 z := (by simpa [OwnR] using hown); obtain ⟨g, cap, cur, rfl, hge, hcur, hcap, hmax, hsz, htk⟩ := hown2.block (by decide); obtain ⟨_, _, hx1, _, hHl⟩ := hown2.holds; rw [(slice_inj hx1).1] at hHl; clear hx1 hown2; clear hown hgrow hat hH3; obtain ⟨a0, a1, a2, a3, a4, a5, a6, a7, a8⟩ := en_at0 (HH.out.below b3) hk1 HZE.out; have b4 := (Below.refl w3.heap.size w3).alloc (Nat.le_refl _) (.cells #[.int .i64 st, .int .u8 (sd : Int), .int .u8 (kd : Int), .int .u8 (dl : Int), .bool en, .int .i64 id, .int .i64 nn, .string dt, .int .i64 er] 38); have E4 : EnBlk (w3.alloc (.cells #[.int .i64 st, .int .u8 (sd : Int), .int .u8 (kd : Int), .int .u8 (dl : Int), .bool en, .int .i64 id, .int .i64 nn, .string dt, .int .i64 er] 38)) w3.heap.size st sd kd dl en id nn dt er := World.alloc_heap_new w3 _)
          generalize w3.alloc (.cells #[.int .i64 st, .int .u8 (sd : Int), .int .u8 (kd : Int), .int .u8 (dl : Int), .bool en, .int .i64 id, .int .i64 nn, .string dt, .int .i64 er] 38) = w4 at *
          clear a0 a1 a2 a3 a4 a5 a6 a7 a8
          go_upto_block 4 with (fail)
          go_cut [56] (fun s56 wx => ∃ e' : En, EnBlk wx w3.heap.size e'.step e'.side e'.kind e'.dlci e'.ends e'.id e'.n e'.data e'.err ∧ Bd e' ∧ Below w3.heap.size w3 wx)
          case first =>
            have hg3 : w3.heap.size < w4.heap.size := (Array.getElem?_eq_some_iff.1 E4).1
            obtain ⟨d0, d1, d2, d3, d4, d5, d6, d7, d8, d9⟩ := en_cells E4
            clear hk3' hk2
            have hk4 : k2 = 0 ∨ k2 = 1 ∨ k2 = 2 ∨ k2 = 3 ∨ k2 = 4 ∨ k2 = 5 ∨ k2 = 6 ∨ k2 = 7 ∨ k2 = 8 ∨ k2 = 9 ∨ k2 = 10 ∨ k2 = 11 := by omega
            clear hk3 bq
            rcases hk4 with rfl | rfl | rfl | rfl | rfl | rfl | rfl | rfl | rfl | rfl | rfl | rfl
            · have fz := frz E4 0
              go_wp2
              go_meet
              exact ⟨⟨_, sd, kd, dl, en, id, nn, dt, er⟩, (blk_put E4 _).trans rfl, ⟨(w64_wrap _).1, (w64_wrap _).2, hbk.side, hbk.kind, hbk.dlci, hbk.i0, hbk.i1, hbk.n0, hbk.n1, hbk.size, hbk.e0, hbk.e1⟩, b4.setCell (p := ⟨_, 0, none⟩) (Nat.le_refl _) _⟩
            · have fz := frz E4 1
              obtain ⟨m, hm, hm2⟩ := u8_wrap (1 - (sd : Int))
              go_wp2
              go_meet
              exact ⟨⟨st, m, kd, dl, en, id, nn, dt, er⟩, (blk_put E4 _).trans rfl, ⟨hbk.s0, hbk.s1, hm2, hbk.kind, hbk.dlci, hbk.i0, hbk.i1, hbk.n0, hbk.n1, hbk.size, hbk.e0, hbk.e1⟩, b4.setCell (p := ⟨_, 1, none⟩) (Nat.le_refl _) _⟩
            · have fz := frz E4 1
              go_wp2
              go_meet
              exact ⟨⟨st, 2, kd, dl, en, id, nn, dt, er⟩, (blk_put E4 _).trans rfl, ⟨hbk.s0, hbk.s1, (show (2 : Nat) ≤ 255 by decide), hbk.kind, hbk.dlci, hbk.i0, hbk.i1, hbk.n0, hbk.n1, hbk.size, hbk.e0, hbk.e1⟩, b4.setCell (p := ⟨_, 1, none⟩) (Nat.le_refl _) _⟩
            · have fz := frz E4 2
              go_wp2
              go_meet
              exact ⟨⟨st, sd, kd % 5 + 1, dl, en, id, nn, dt, er⟩, (blk_put E4 _).trans (by rw [show ((kd : Int) % 5 + 1) = ((kd % 5 + 1 : Nat) : Int) by omega]; rfl), ⟨hbk.s0, hbk.s1, hbk.side, (show kd % 5 + 1 ≤ 255 by omega), hbk.dlci, hbk.i0, hbk.i1, hbk.n0, hbk.n1, hbk.size, hbk.e0, hbk.e1⟩, b4.setCell (p := ⟨_, 2, none⟩) (Nat.le_refl _) _⟩
            · have E5 : EnBlk (w4.alloc (.cells #[.int .u8 0, .int .u8 62, .int .u8 63, .int .u8 64, .int .u8 6] 5)) w3.heap.size st sd kd dl en id nn dt er := (Below.heap_alloc w4 _ _ hg3).trans E4
              have fz := frz E5 3
              have fz4 := frz E4 3
              have hr : k % 5 = 0 ∨ k % 5 = 1 ∨ k % 5 = 2 ∨ k % 5 = 3 ∨ k % 5 = 4 := by omega
              rcases hr with hr | hr | hr | hr | hr
              · go_wp2
                go_meet
                exact ⟨⟨st, sd, kd, 0, en, id, nn, dt, er⟩, (Below.heap_alloc _ _ _ (by simpa using hg3)).trans ((blk_put E4 _).trans rfl), ⟨hbk.s0, hbk.s1, hbk.side, hbk.kind, (show (0 : Nat) ≤ 255 by decide), hbk.i0, hbk.i1, hbk.n0, hbk.n1, hbk.size, hbk.e0, hbk.e1⟩, (b4.setCell (p := ⟨_, 3, none⟩) (Nat.le_refl _) _).alloc (by simpa using b4.size) _⟩
              · go_wp2
                go_meet
                exact ⟨⟨st, sd, kd, 62, en, id, nn, dt, er⟩, (Below.heap_alloc _ _ _ (by simpa using hg3)).trans ((blk_put E4 _).trans rfl), ⟨hbk.s0, hbk.s1, hbk.side, hbk.kind, (show (62 : Nat) ≤ 255 by decide), hbk.i0, hbk.i1, hbk.n0, hbk.n1, hbk.size, hbk.e0, hbk.e1⟩, (b4.setCell (p := ⟨_, 3, none⟩) (Nat.le_refl _) _).alloc (by simpa using b4.size) _⟩
              · go_wp2
                go_meet
                exact ⟨⟨st, sd, kd, 63, en, id, nn, dt, er⟩, (Below.heap_alloc _ _ _ (by simpa using hg3)).trans ((blk_put E4 _).trans rfl), ⟨hbk.s0, hbk.s1, hbk.side, hbk.kind, (show (63 : Nat) ≤ 255 by decide), hbk.i0, hbk.i1, hbk.n0, hbk.n1, hbk.size, hbk.e0, hbk.e1⟩, (b4.setCell (p := ⟨_, 3, none⟩) (Nat.le_refl _) _).alloc (by simpa using b4.size) _⟩
              · go_wp2
                go_meet
                exact ⟨⟨st, sd, kd, 64, en, id, nn, dt, er⟩, (Below.heap_alloc _ _ _ (by simpa using hg3)).trans ((blk_put E4 _).trans rfl), ⟨hbk.s0, hbk.s1, hbk.side, hbk.kind, (show (64 : Nat) ≤ 255 by decide), hbk.i0, hbk.i1, hbk.n0, hbk.n1, hbk.size, hbk.e0, hbk.e1⟩, (b4.setCell (p := ⟨_, 3, none⟩) (Nat.le_refl _) _).alloc (by simpa using b4.size) _⟩
              · go_wp2
                go_meet
                exact ⟨⟨st, sd, kd, 6, en, id, nn, dt, er⟩, (Below.heap_alloc _ _ _ (by simpa using hg3)).trans ((blk_put E4 _).trans rfl), ⟨hbk.s0, hbk.s1, hbk.side, hbk.kind, (show (6 : Nat) ≤ 255 by decide), hbk.i0, hbk.i1, hbk.n0, hbk.n1, hbk.size, hbk.e0, hbk.e1⟩, (b4.setCell (p := ⟨_, 3, none⟩) (Nat.le_refl _) _).alloc (by simpa using b4.size) _⟩
            · have fz := frz E4 4
              go_wp2
              go_meet
              exact ⟨⟨st, sd, kd, dl, !en, id, nn, dt, er⟩, (blk_put E4 _).trans rfl, ⟨hbk.s0, hbk.s1, hbk.side, hbk.kind, hbk.dlci, hbk.i0, hbk.i1, hbk.n0, hbk.n1, hbk.size, hbk.e0, hbk.e1⟩, b4.setCell (p := ⟨_, 4, none⟩) (Nat.le_refl _) _⟩
            · have fz := frz E4 5
              go_wp2
              go_meet
              exact ⟨⟨st, sd, kd, dl, en, _, nn, dt, er⟩, (blk_put E4 _).trans rfl, ⟨hbk.s0, hbk.s1, hbk.side, hbk.kind, hbk.dlci, (w64_wrap _).1, (w64_wrap _).2, hbk.n0, hbk.n1, hbk.size, hbk.e0, hbk.e1⟩, b4.setCell (p := ⟨_, 5, none⟩) (Nat.le_refl _) _⟩
            · have E5 : EnBlk (w4.alloc (.cells #[.int .i64 (-1), .int .i64 0, .int .i64 1, .int .i64 4] 3)) w3.heap.size st sd kd dl en id nn dt er := (Below.heap_alloc w4 _ _ hg3).trans E4
              have fz := frz E5 6
              have fz4 := frz E4 6
              have hr : k % 4 = 0 ∨ k % 4 = 1 ∨ k % 4 = 2 ∨ k % 4 = 3 := by omega
              rcases hr with hr | hr | hr | hr
              · go_wp2
                go_meet
                exact ⟨⟨st, sd, kd, dl, en, id, -1, dt, er⟩, (Below.heap_alloc _ _ _ (by simpa using hg3)).trans ((blk_put E4 _).trans rfl), ⟨hbk.s0, hbk.s1, hbk.side, hbk.kind, hbk.dlci, hbk.i0, hbk.i1, (show (-9223372036854775808 : Int) ≤ -1 by decide), (show (-1 : Int) ≤ 9223372036854775807 by decide), hbk.size, hbk.e0, hbk.e1⟩, (b4.setCell (p := ⟨_, 6, none⟩) (Nat.le_refl _) _).alloc (by simpa using b4.size) _⟩
              · go_wp2
                go_meet
                exact ⟨⟨st, sd, kd, dl, en, id, 0, dt, er⟩, (Below.heap_alloc _ _ _ (by simpa using hg3)).trans ((blk_put E4 _).trans rfl), ⟨hbk.s0, hbk.s1, hbk.side, hbk.kind, hbk.dlci, hbk.i0, hbk.i1, (show (-9223372036854775808 : Int) ≤ 0 by decide), (show (0 : Int) ≤ 9223372036854775807 by decide), hbk.size, hbk.e0, hbk.e1⟩, (b4.setCell (p := ⟨_, 6, none⟩) (Nat.le_refl _) _).alloc (by simpa using b4.size) _⟩
              · go_wp2
                go_meet
                exact ⟨⟨st, sd, kd, dl, en, id, 1, dt, er⟩, (Below.heap_alloc _ _ _ (by simpa using hg3)).trans ((blk_put E4 _).trans rfl), ⟨hbk.s0, hbk.s1, hbk.side, hbk.kind, hbk.dlci, hbk.i0, hbk.i1, (show (-9223372036854775808 : Int) ≤ 1 by decide), (show (1 : Int) ≤ 9223372036854775807 by decide), hbk.size, hbk.e0, hbk.e1⟩, (b4.setCell (p := ⟨_, 6, none⟩) (Nat.le_refl _) _).alloc (by simpa using b4.size) _⟩
              · go_wp2
                go_meet
                exact ⟨⟨st, sd, kd, dl, en, id, 4, dt, er⟩, (Below.heap_alloc _ _ _ (by simpa using hg3)).trans ((blk_put E4 _).trans rfl), ⟨hbk.s0, hbk.s1, hbk.side, hbk.kind, hbk.dlci, hbk.i0, hbk.i1, (show (-9223372036854775808 : Int) ≤ 4 by decide), (show (4 : Int) ≤ 9223372036854775807 by decide), hbk.size, hbk.e0, hbk.e1⟩, (b4.setCell (p := ⟨_, 6, none⟩) (Nat.le_refl _) _).alloc (by simpa using b4.size) _⟩
            · have E5 : EnBlk (w4.alloc (.cells #[.string ⟨#[]⟩, .string ⟨#[97]⟩, .string ⟨#[97, 98, 99]⟩, .string ⟨#[98, 99]⟩] 9)) w3.heap.size st sd kd dl en id nn dt er := (Below.heap_alloc w4 _ _ hg3).trans E4
              have fz := frz E5 7
              have fz4 := frz E4 7
              have hr : k % 4 = 0 ∨ k % 4 = 1 ∨ k % 4 = 2 ∨ k % 4 = 3 := by omega
              rcases hr with hr | hr | hr | hr
              · go_wp2
                go_meet
                exact ⟨⟨st, sd, kd, dl, en, id, nn, ⟨#[]⟩, er⟩, (Below.heap_alloc _ _ _ (by simpa using hg3)).trans ((blk_put E4 _).trans rfl), ⟨hbk.s0, hbk.s1, hbk.side, hbk.kind, hbk.dlci, hbk.i0, hbk.i1, hbk.n0, hbk.n1, (show (⟨#[]⟩ : ByteArray).size ≤ maxLen by decide), hbk.e0, hbk.e1⟩, (b4.setCell (p := ⟨_, 7, none⟩) (Nat.le_refl _) _).alloc (by simpa using b4.size) _⟩
              · go_wp2
                go_meet
                exact ⟨⟨st, sd, kd, dl, en, id, nn, ⟨#[97]⟩, er⟩, (Below.heap_alloc _ _ _ (by simpa using hg3)).trans ((blk_put E4 _).trans rfl), ⟨hbk.s0, hbk.s1, hbk.side, hbk.kind, hbk.dlci, hbk.i0, hbk.i1, hbk.n0, hbk.n1, (show (⟨#[97]⟩ : ByteArray).size ≤ maxLen by decide), hbk.e0, hbk.e1⟩, (b4.setCell (p := ⟨_, 7, none⟩) (Nat.le_refl _) _).alloc (by simpa using b4.size) _⟩
              · go_wp2
                go_meet
                exact ⟨⟨st, sd, kd, dl, en, id, nn, ⟨#[97, 98, 99]⟩, er⟩, (Below.heap_alloc _ _ _ (by simpa using hg3)).trans ((blk_put E4 _).trans rfl), ⟨hbk.s0, hbk.s1, hbk.side, hbk.kind, hbk.dlci, hbk.i0, hbk.i1, hbk.n0, hbk.n1, (show (⟨#[97, 98, 99]⟩ : ByteArray).size ≤ maxLen by decide), hbk.e0, hbk.e1⟩, (b4.setCell (p := ⟨_, 7, none⟩) (Nat.le_refl _) _).alloc (by simpa using b4.size) _⟩
              · go_wp2
                go_meet
                exact ⟨⟨st, sd, kd, dl, en, id, nn, ⟨#[98, 99]⟩, er⟩, (Below.heap_alloc _ _ _ (by simpa using hg3)).trans ((blk_put E4 _).trans rfl), ⟨hbk.s0, hbk.s1, hbk.side, hbk.kind, hbk.dlci, hbk.i0, hbk.i1, hbk.n0, hbk.n1, (show (⟨#[98, 99]⟩ : ByteArray).size ≤ maxLen by decide), hbk.e0, hbk.e1⟩, (b4.setCell (p := ⟨_, 7, none⟩) (Nat.le_refl _) _).alloc (by simpa using b4.size) _⟩
            · have E5 : EnBlk (w4.alloc (.cells #[.int .i64 0, .int .i64 262, .int .i64 260, .int .i64 261, .int .i64 263, .int .i64 4] 34)) w3.heap.size st sd kd dl en id nn dt er := (Below.heap_alloc w4 _ _ hg3).trans E4
              have fz := frz E5 8
              have fz4 := frz E4 8
              have hr : k % 6 = 0 ∨ k % 6 = 1 ∨ k % 6 = 2 ∨ k % 6 = 3 ∨ k % 6 = 4 ∨ k % 6 = 5 := by omega
              rcases hr with hr | hr | hr | hr | hr | hr
              · go_wp2
                go_meet
                exact ⟨⟨st, sd, kd, dl, en, id, nn, dt, 0⟩, (Below.heap_alloc _ _ _ (by simpa using hg3)).trans ((blk_put E4 _).trans rfl), ⟨hbk.s0, hbk.s1, hbk.side, hbk.kind, hbk.dlci, hbk.i0, hbk.i1, hbk.n0, hbk.n1, hbk.size, (show (-9223372036854775808 : Int) ≤ 0 by decide), (show (0 : Int) ≤ 9223372036854775807 by decide)⟩, (b4.setCell (p := ⟨_, 8, none⟩) (Nat.le_refl _) _).alloc (by simpa using b4.size) _⟩
              · go_wp2
                go_meet
                exact ⟨⟨st, sd, kd, dl, en, id, nn, dt, 262⟩, (Below.heap_alloc _ _ _ (by simpa using hg3)).trans ((blk_put E4 _).trans rfl), ⟨hbk.s0, hbk.s1, hbk.side, hbk.kind, hbk.dlci, hbk.i0, hbk.i1, hbk.n0, hbk.n1, hbk.size, (show (-9223372036854775808 : Int) ≤ 262 by decide), (show (262 : Int) ≤ 9223372036854775807 by decide)⟩, (b4.setCell (p := ⟨_, 8, none⟩) (Nat.le_refl _) _).alloc (by simpa using b4.size) _⟩
              · go_wp2
                go_meet
                exact ⟨⟨st, sd, kd, dl, en, id, nn, dt, 260⟩, (Below.heap_alloc _ _ _ (by simpa using hg3)).trans ((blk_put E4 _).trans rfl), ⟨hbk.s0, hbk.s1, hbk.side, hbk.kind, hbk.dlci, hbk.i0, hbk.i1, hbk.n0, hbk.n1, hbk.size, (show (-9223372036854775808 : Int) ≤ 260 by decide), (show (260 : Int) ≤ 9223372036854775807 by decide)⟩, (b4.setCell (p := ⟨_, 8, none⟩) (Nat.le_refl _) _).alloc (by simpa using b4.size) _⟩
              · go_wp2
                go_meet
                exact ⟨⟨st, sd, kd, dl, en, id, nn, dt, 261⟩, (Below.heap_alloc _ _ _ (by simpa using hg3)).trans ((blk_put E4 _).trans rfl), ⟨hbk.s0, hbk.s1, hbk.side, hbk.kind, hbk.dlci, hbk.i0, hbk.i1, hbk.n0, hbk.n1, hbk.size, (show (-9223372036854775808 : Int) ≤ 261 by decide), (show (261 : Int) ≤ 9223372036854775807 by decide)⟩, (b4.setCell (p := ⟨_, 8, none⟩) (Nat.le_refl _) _).alloc (by simpa using b4.size) _⟩
              · go_wp2
                go_meet
                exact ⟨⟨st, sd, kd, dl, en, id, nn, dt, 263⟩, (Below.heap_alloc _ _ _ (by simpa using hg3)).trans ((blk_put E4 _).trans rfl), ⟨hbk.s0, hbk.s1, hbk.side, hbk.kind, hbk.dlci, hbk.i0, hbk.i1, hbk.n0, hbk.n1, hbk.size, (show (-9223372036854775808 : Int) ≤ 263 by decide), (show (263 : Int) ≤ 9223372036854775807 by decide)⟩, (b4.setCell (p := ⟨_, 8, none⟩) (Nat.le_refl _) _).alloc (by simpa using b4.size) _⟩
              · go_wp2
                go_meet
                exact ⟨⟨st, sd, kd, dl, en, id, nn, dt, 4⟩, (Below.heap_alloc _ _ _ (by simpa using hg3)).trans ((blk_put E4 _).trans rfl), ⟨hbk.s0, hbk.s1, hbk.side, hbk.kind, hbk.dlci, hbk.i0, hbk.i1, hbk.n0, hbk.n1, hbk.size, (show (-9223372036854775808 : Int) ≤ 4 by decide), (show (4 : Int) ≤ 9223372036854775807 by decide)⟩, (b4.setCell (p := ⟨_, 8, none⟩) (Nat.le_refl _) _).alloc (by simpa using b4.size) _⟩
            · have fz := frz E4 8
              go_wp2
              go_meet
              exact ⟨⟨st, sd, kd, dl, en, id, nn, dt, 262⟩, (blk_put E4 _).trans rfl, ⟨hbk.s0, hbk.s1, hbk.side, hbk.kind, hbk.dlci, hbk.i0, hbk.i1, hbk.n0, hbk.n1, hbk.size, (show (-9223372036854775808 : Int) ≤ 262 by decide), (show (262 : Int) ≤ 9223372036854775807 by decide)⟩, b4.setCell (p := ⟨_, 8, none⟩) (Nat.le_refl _) _⟩
            · have fz := frz E4 0
              go_wp2
              go_meet
              exact ⟨⟨_, sd, kd, dl, en, id, nn, dt, er⟩, (blk_put E4 _).trans rfl, ⟨(w64_wrap _).1, (w64_wrap _).2, hbk.side, hbk.kind, hbk.dlci, hbk.i0, hbk.i1, hbk.n0, hbk.n1, hbk.size, hbk.e0, hbk.e1⟩, b4.setCell (p := ⟨_, 0, none⟩) (Nat.le_refl _) _⟩
          case rest =>
          obtain ⟨e', E5, hbe, b5⟩ := hcut
          have hg3 : g < w3.heap.size := (Array.getElem?_eq_some_iff.1 hcur).1
          have hcur5 := (b5.block g hg3).trans hcur
          clear E4 b4 hk3' bq
          obtain ⟨st', sd', kd', dl', en', id', nn', dt', er'⟩ := e'
          dsimp only at E5
          obtain ⟨d0, d1, d2, d3, d4, d5, d6, d7, d8, d9⟩ := en_cells E5
          have hHc := hHl.below b5
          obtain ⟨a0, a1, a2, a3, a4, a5, a6, a7, a8⟩ := en_at0 hHc hk1 HZE.out
          have f0 := frz hcur5 (k * 9)
          have f1 := frz hcur5 (k * 9 + 1)
          have f2 := frz hcur5 (k * 9 + 2)
          have f3 := frz hcur5 (k * 9 + 3)
          have f4 := frz hcur5 (k * 9 + 4)
          have f5 := frz hcur5 (k * 9 + 5)
          have f6 := frz hcur5 (k * 9 + 6)
          have f7 := frz hcur5 (k * 9 + 7)
          have f8 := frz hcur5 (k * 9 + 8)
          go_upto_region 39 with (fail)
          have hset : ((((((((wc.setCell ⟨g, k * 9, none⟩ (.int .i64 st')).setCell ⟨g, k * 9 + 1, none⟩ (.int .u8 (sd' : Int))).setCell ⟨g, k * 9 + 2, none⟩ (.int .u8 (kd' : Int))).setCell ⟨g, k * 9 + 3, none⟩ (.int .u8 (dl' : Int))).setCell ⟨g, k * 9 + 4, none⟩ (.bool en')).setCell ⟨g, k * 9 + 5, none⟩ (.int .i64 id')).setCell ⟨g, k * 9 + 6, none⟩ (.int .i64 nn')).setCell ⟨g, k * 9 + 7, none⟩ (.string dt')).setCell ⟨g, k * 9 + 8, none⟩ (.int .i64 er') = wc.setCells g (k * 9) (enA ⟨st', sd', kd', dl', en', id', nn', dt', er'⟩).toList := rfl
          rw [hset]
          have hE6 := HoldsE.put (k := k) ⟨st', sd', kd', dl', en', id', nn', dt', er'⟩ hHc hk1
          have b6 := below_setCells hge (enA ⟨st', sd', kd', dl', en', id', nn', dt', er'⟩).toList (k * 9) wc (b3.trans (b5.mono b3.size))
          generalize wc.setCells g (k * 9) (enA ⟨st', sd', kd', dl', en', id', nn', dt', er'⟩).toList = w6 at *
          have hbz : ∀ j, j < 16 → Bd (putZ z k ⟨st', sd', kd', dl', en', id', nn', dt', er'⟩ j) := fun j hj => by
            unfold putZ
            split
            · exact hbe
            · exact HBD.out j hj
          have HBB := hide (bds (by decide) hbz)
          have hbc : ∀ j, j < 15 → Bd (cutZ (putZ z k ⟨st', sd', kd', dl', en', id', nn', dt', er'⟩) k j) := fun j hj => by
            unfold cutZ
            split
            · exact hbz j (by omega)
            · exact hbz (j + 1) (by omega)
          have HBC := hide (bds (by decide) hbc)
          clear hbz hbc hbe
          obtain ⟨zp, hzp⟩ : ∃ zp, putZ z k ⟨st', sd', kd', dl', en', id', nn', dt', er'⟩ = zp := ⟨_, rfl⟩
          rw [hzp] at hE6 HBB HBC
          have hk15 : (k : Int) ≤ 16 := by omega
          obtain ⟨k1, hk1e⟩ : ∃ k1, k + 1 = k1 := ⟨_, rfl⟩
          have hk1w : IntKind.i64.wrap ((k : Int) + 1) = (k1 : Int) := by rw [show (k : Int) + 1 = (k1 : Int) by omega]; exact IntWalk.i64_in _ (by omega)
          have hk1y : IntKind.i64.wrap (k1 : Int) = (k1 : Int) := IntWalk.i64_in _ (by omega)
          have hk1x : (k : Int) + 1 = (k1 : Int) := by omega
          have hk1l : (k1 : Int) ≤ 16 := by omega
          have hk1n : (0 : Int) ≤ (k1 : Int) := by omega
          have HK1 := hide hk1e
          clear hk1e
          have hkc : (k : Int) ≤ (cap : Int) := by omega
          clear a0 a1 a2 a3 a4 a5 a6 a7 a8 f0 f1 f2 f3 f4 f5 f6 f7 f8 d0 d1 d2 d3 d4 d5 d6 d7 d8 d9 hcur5 hcur E5 hHc hHl b5 hset hzp
          refine wp_region_held (S := fun W => Below w6.heap.size w6 W) (by kernel_rfl) ?_
          change wpAnyH _ _ _ _ _ _ _ _ (World.drew _)
          have hS : Below w6.heap.size w6 w6.drew := below_drewN (Below.refl _ _) 1
          refine take_atH 0 134 hS rfl rfl (by kernel_rfl) (by kernel_rfl) (by kernel_rfl) (fun _ _ _ h => h) rfl (fun wq hq => by go_simp; first | done | with_reducible rfl) ?_
          simp only [Act.put, List.setIfInBounds_toArray, List.set_cons_zero, List.set_cons_succ]
          refine lone_atH 1 rfl (by kernel_rfl) rfl (fun K hK => ?_)
          go_simp
          refine (lawAccepts_any (some ⟨g, 0, none⟩) 16 cap zp _ (hE6.below hS) HBB.out).mono ?_; rintro e wN1 ⟨rfl, bN1⟩
          refine (fun hN1 => hK _ _ hN1 ?_) (below_step hS (Nat.le_refl _) bN1); clear hK K
          refine take_atH 2 136 hN1 rfl rfl (by kernel_rfl) (by kernel_rfl) (by kernel_rfl) (fun _ _ _ h => h) rfl (fun wq hq => by go_simp; first | done | with_reducible rfl) ?_
          simp only [Act.put, List.setIfInBounds_toArray, List.set_cons_zero, List.set_cons_succ]
          refine take_atH 3 137 hN1 rfl rfl (by kernel_rfl) (by kernel_rfl) (by kernel_rfl) (fun _ _ _ h => h) rfl (fun wq hq => by go_simp; first | done | with_reducible rfl) ?_
          simp only [Act.put, List.setIfInBounds_toArray, List.set_cons_zero, List.set_cons_succ]
          refine take_atH 4 138 hN1 rfl rfl (by kernel_rfl) (by kernel_rfl) (by kernel_rfl) (fun _ _ _ h => h) rfl (fun wq hq => by go_simp; first | done | with_reducible rfl) ?_
          simp only [Act.put, List.setIfInBounds_toArray, List.set_cons_zero, List.set_cons_succ]
          refine lone_atH 5 rfl (by kernel_rfl) rfl (fun K hK => ?_)
          go_simp
          refine (lawGoes_any (some ⟨g, 0, none⟩) 16 cap zp _ (hE6.below hN1) HBB.out).mono ?_; rintro e wN2 ⟨rfl, bN2⟩
          refine (fun hN2 => hK _ _ hN2 ?_) (below_step hN1 (Nat.le_refl _) bN2); clear hK K
          refine take_atH 6 140 hN2 rfl rfl (by kernel_rfl) (by kernel_rfl) (by kernel_rfl) (fun _ _ _ h => h) rfl (fun wq hq => by go_simp; first | done | with_reducible rfl) ?_
          simp only [Act.put, List.setIfInBounds_toArray, List.set_cons_zero, List.set_cons_succ]
          refine take_atH 7 141 hN2 rfl rfl (by kernel_rfl) (by kernel_rfl) (by kernel_rfl) (fun _ _ _ h => h) rfl (fun wq hq => by go_simp; first | done | with_reducible rfl) ?_
          simp only [Act.put, List.setIfInBounds_toArray, List.set_cons_zero, List.set_cons_succ]
          refine take_atH 8 142 hN2 rfl rfl (by kernel_rfl) (by kernel_rfl) (by kernel_rfl) (fun _ _ _ h => h) rfl (fun wq hq => by go_simp; first | done | with_reducible rfl) ?_
          simp only [Act.put, List.setIfInBounds_toArray, List.set_cons_zero, List.set_cons_succ]
          refine take_atH 9 143 hN2 rfl rfl (by kernel_rfl) (by kernel_rfl) (by kernel_rfl) (fun _ _ _ h => h) rfl (fun wq hq => by go_simp; first | done | with_reducible rfl) ?_
          simp only [Act.put, List.setIfInBounds_toArray, List.set_cons_zero, List.set_cons_succ]
          refine take_atH 10 144 hN2 rfl rfl (by kernel_rfl) (by kernel_rfl) (by kernel_rfl) (fun _ _ _ h => h) rfl (fun wq hq => by go_simp; first | done | with_reducible rfl) ?_
          simp only [Act.put, List.setIfInBounds_toArray, List.set_cons_zero, List.set_cons_succ]
          refine take_atH 11 145 hN2 rfl rfl (by kernel_rfl) (by kernel_rfl) (by kernel_rfl) (fun _ _ _ h => h) rfl (fun wq hq => by go_simp; first | done | with_reducible rfl) ?_
          simp only [Act.put, List.setIfInBounds_toArray, List.set_cons_zero, List.set_cons_succ]
          refine take_atH 12 146 hN2 rfl rfl (by kernel_rfl) (by kernel_rfl) (by kernel_rfl) (fun _ _ _ h => h) rfl (fun wq hq => by go_simp; first | done | with_reducible rfl) ?_
          simp only [Act.put, List.setIfInBounds_toArray, List.set_cons_zero, List.set_cons_succ]
          refine take_atH 13 147 hN2 rfl rfl (by kernel_rfl) (by kernel_rfl) (by kernel_rfl) (fun _ _ _ h => h) rfl (fun wq hq => by go_simp; first | done | with_reducible rfl) ?_
          simp only [Act.put, List.setIfInBounds_toArray, List.set_cons_zero, List.set_cons_succ]
          refine take_atH 14 148 hN2 rfl rfl (by kernel_rfl) (by kernel_rfl) (by kernel_rfl) (fun _ _ _ h => h) rfl (fun wq hq => by go_simp; first | done | with_reducible rfl) ?_
          simp only [Act.put, List.setIfInBounds_toArray, List.set_cons_zero, List.set_cons_succ]
          refine take_atH 15 149 hN2 rfl rfl (by kernel_rfl) (by kernel_rfl) (by kernel_rfl) (fun _ _ _ h => h) rfl (fun wq hq => by go_simp; first | done | with_reducible rfl) ?_
          simp only [Act.put, List.setIfInBounds_toArray, List.set_cons_zero, List.set_cons_succ]
          refine take_atH 16 150 hN2 rfl rfl (by kernel_rfl) (by kernel_rfl) (by kernel_rfl) (fun _ _ _ h => h) rfl (fun wq hq => by go_simp; first | done | with_reducible rfl) ?_
          simp only [Act.put, List.setIfInBounds_toArray, List.set_cons_zero, List.set_cons_succ]
          refine lone_atH 17 rfl (by kernel_rfl) rfl (fun K hK => ?_)
          obtain ⟨a', c', w8, hrun, hEc, b8⟩ := append_cut _ (if cap = k1 then some ⟨g, 0, none⟩ else some ⟨g, k1 * 9, none⟩) g k (k1 * 9) (16 - k1) (cap - k1) 22 zp (hE6.below hN2) (by rw [← HK1.out]) (by have := HK1.out; omega) (by by_cases x : cap = k1; exact .inr ⟨by have := HK1.out; omega, ⟨g, 0, none⟩, if_pos x⟩; exact .inl (if_neg x))
          refine oper_append (.tmp 146) (.tmp 150) 22 rfl rfl rfl hrun ?_
          have bN3 := b8
          refine (fun hN3 => hK _ _ hN3 ?_) (below_step hN2 (Nat.le_refl _) bN3); clear hK K
          refine lone_atH 18 rfl (by kernel_rfl) rfl (fun K hK => ?_)
          go_simp
          refine (lawAccepts_any a' 15 c' (cutZ zp k) _ hEc HBC.out).mono ?_; rintro e wN4 ⟨rfl, bN4⟩
          refine (fun hN4 => hK _ _ hN4 ?_) (below_step hN3 (Nat.le_refl _) bN4); clear hK K
          refine take_atH 19 153 hN4 rfl rfl (by kernel_rfl) (by kernel_rfl) (by kernel_rfl) (fun _ _ _ h => h) rfl (fun wq hq => by go_simp; first | done | with_reducible rfl) ?_
          simp only [Act.put, List.setIfInBounds_toArray, List.set_cons_zero, List.set_cons_succ]
          refine take_atH 20 154 hN4 rfl rfl (by kernel_rfl) (by kernel_rfl) (by kernel_rfl) (fun _ _ _ h => h) rfl (fun wq hq => by go_simp; first | done | with_reducible rfl) ?_
          simp only [Act.put, List.setIfInBounds_toArray, List.set_cons_zero, List.set_cons_succ]
          refine wpAnyH_done (by kernel_rfl) ?_ _
          have b9 := b6.trans (hN4.mono b6.size)
          go_wp2
          go_roundw
          case rel => exact ⟨k2 + 1, hk3, by go_num, b9⟩
          case measure => simp [intOf]; omega
        · obtain rfl : k2 = 12 := by omega
          go_wp2
          go_roundw
          case rel => exact ⟨k + 1, hk1, by go_num, bq⟩
          case measure => simp [intOf]; omega
    · obtain rfl : k = 16 := by omega
      have hH5 := HH.out.below bk
      have h0 := en_at0 hH5 (k := 0) (by decide) rfl
      go_wp2_with fail
      refine (entry_none _ _ _ _ _ _ _ _ _ _).mono ?_
      rintro e w3 ⟨rfl, b3⟩
      have bw3 := below_step bk (Nat.le_refl _) b3
      go_wp2_with fail
      refine (lawAccepts_any none 0 0 z _ (fun h => absurd h (by decide)) (bds (by decide) (fun j hj => absurd hj (by omega)))).mono ?_
      rintro e w4 ⟨rfl, b4⟩
      have bw4 := below_step bw3 (Nat.le_refl _) b4
      go_wp2_with fail
      refine (works_any _).mono ?_
      rintro e w5 ⟨rfl, b5⟩
      have bw5 := below_step bw4 (Nat.le_refl _) b5
      go_wp2
      go_ret
      exact ⟨rfl, below_step BW2.out hB2' bw5⟩
end Go.Proofs.Ytkikonknciffiaa
