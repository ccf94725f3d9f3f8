/- A byte of a body; the flag behind a body: the walks. -/
import Derived.Test.YtnnimkailajgaaaDoorDfWants
namespace Go.Proofs.YtnnimkailajgaaaDoor
open Go.RowKit
set_option linter.unusedVariables false
set_option linter.unusedSimpArgs false

/-- The own row, appended to; the deframer's block, written anew. -/
theorem DefAt.push {adv ini : Bool} {n1 : Int} {B gd : Nat} {x : DS} {W w1 : World} {o : Obj} {v v' : Value} {b : Nat} (h : DefAt adv ini n1 B gd x W) (hv : W.heap[gd]? = some (dfr adv ini n1 v x.bad x.next gd))
    (hown0 : W.ownsRow B 5 1 v x.got.length (u8s x.got)) (hown : w1.ownsRow B 5 1 v' (x.got.length + 1) (u8s x.got ++ [.int .u8 (b : Int)])) (hgrow : (W.alloc o).grownBy w1 v.ownBlock) :
    w1.heap[gd]? = some (dfr adv ini n1 v x.bad x.next gd) ∧ DefAt adv ini n1 B gd ⟨x.next, x.got ++ [b], x.bad⟩ (w1.setCell ⟨gd, 3, none⟩ v') := by
  have hlt := h.lt
  have hne : some gd ≠ v.ownBlock := by
    intro e
    rcases hown0.2 with ⟨rfl, _⟩ | ⟨g, cap, cur, rfl, _, e3, _⟩
    · simp [Value.ownBlock] at e
    · have : gd = g := by simpa [Value.ownBlock] using e
      subst this
      rw [hv] at e3
      injection e3 with e3
      exact absurd e3 (dfr_ne _ _ _ _ _ _ _ _)
  have h1 : w1.heap[gd]? = some (dfr adv ini n1 v x.bad x.next gd) := by
    rw [hgrow.block gd (by rw [World.size_alloc]; omega) hne, Below.heap_alloc _ _ _ hlt]
    exact hv
  refine ⟨h1, h.ge, v', blk_set h1 3 v', ?_⟩
  have := own_set hown h1 (dfr_ne _ _ _ _ _ _ _) (q := 3) v'
  simpa [u8s] using this
theorem Keeps.grow {B gd : Nat} {a W w1 : World} {o : Obj} {v : Value} {n : Nat} {xs : List Value} (h : Keeps B gd a W) (hown : W.ownsRow B 5 1 v n xs) (hB : B ≤ W.heap.size) (hgrow : (W.alloc o).grownBy w1 v.ownBlock) : Keeps B gd a w1 := by
  refine ⟨h.below.trans (own8_grown hown hB hgrow), fun j cs t fr h1 h2 h3 => ?_⟩
  have hW := h.keep j cs t fr h1 h2 h3
  have hj := (Array.getElem?_eq_some_iff.1 hW).1
  rw [hgrow.block j (by rw [World.size_alloc]; omega) ?_, Below.heap_alloc _ _ _ hj]
  · exact hW
  · intro e
    rcases hown.2 with ⟨rfl, _⟩ | ⟨g, cap, cur, rfl, _, e3, _⟩
    · simp [Value.ownBlock] at e
    · have : j = g := by simpa [Value.ownBlock] using e
      subst this
      rw [hW] at e3
      injection e3 with e3
      injection e3 with _ e3
      exact h3 e3

set_option maxRecDepth 100000 in
set_option maxHeartbeats 4000000 in
theorem body_any (ini : Bool) (n1 : Int) (B gd : Nat) (x : DS) (b : Nat) (w : World) (hb : b ≤ 255) (h : DefAt false ini n1 B gd x w) (hx : x.bad ≤ 100000) (hn : x.next = 1) (hl : x.got.length ≤ 299) (hby : Bytes x.got) :
    Calls Tryd.prog 14 #[.pointer (some ⟨gd, 0, none⟩), .int .u8 (b : Int)] w fun e w' => e = .returned (.tuple #[zf.v, .bool false]) ∧ DefAt false ini n1 B gd (bodyS n1 x b).1 w' ∧ Keeps B gd w w' := by
  have hlt := h.lt
  have hB : B ≤ w.heap.size := Nat.le_trans h.ge (Nat.le_of_lt hlt)
  have K0 : Keeps B gd w (w.alloc (.cells #[.int .u8 0, .bool false, .int .u8 0, .bool false, .int .u8 0, .int .u8 0, .string ⟨#[]⟩] 30)) := Keeps.ofBelow hB ((Below.refl _ _).alloc (Nat.le_refl _) _)
  have D0 := h.alloc (.cells #[.int .u8 0, .bool false, .int .u8 0, .bool false, .int .u8 0, .int .u8 0, .string ⟨#[]⟩] 30)
  have Z0 := zblk w
  have hw1 : (w.alloc (.cells #[.int .u8 0, .bool false, .int .u8 0, .bool false, .int .u8 0, .int .u8 0, .string ⟨#[]⟩] 30)).heap.size = w.heap.size + 1 := by simp
  obtain ⟨y, hy⟩ : ∃ y, (bodyS n1 x b).1 = y := ⟨_, rfl⟩
  rw [hy]
  unfold bodyS at hy
  have HY := hide hy
  clear hy
  go_enter Tryd.func14, Tryd.ntmps14
  go_upto_region 1 with (fail)
  generalize w.alloc (.cells #[.int .u8 0, .bool false, .int .u8 0, .bool false, .int .u8 0, .int .u8 0, .string ⟨#[]⟩] 30) = w1 at *
  obtain ⟨v, hblk, hown⟩ := D0.row
  obtain ⟨c0, c1, c2, c3, c4, c5, c6, f3, f4, f5, _⟩ := cells7 hblk
  rw [show ((fl false : Nat) : Int) = 249 from rfl] at c2
  obtain ⟨av, cv, rfl⟩ := own8_form hown
  by_cases hg : x.got = [] ∧ b = 249
  · obtain rfl : x = y := by rw [← HY.out, if_pos hg]
    obtain ⟨hg1, rfl⟩ := hg
    rw [hg1] at c3
    obtain ⟨z0, z1, z2, z3, z4, z5, z6, y0, y1, y2, y3, y4, y5, y6⟩ := zero_cells Z0
    go_wp2
    exact ret_frame45 (frBlk_set7 Z0 0 false 0 false 0 0 ⟨#[]⟩) rfl rfl ⟨rfl, D0.set7 Z0 (Nat.ne_of_lt hlt) _ _ _ _ _ _ _, K0.set7 hB (Nat.le_refl _) _ _ _ _ _ _ _⟩
  rw [if_neg hg] at HY
  have hg2 : x.got.length = 0 → ((b : Int) == 249) = false := fun hz => by
    rw [beq_eq_false_iff_ne]
    intro e
    exact hg ⟨List.eq_nil_of_length_eq_zero hz, by omega⟩
  have hln : x.got.length + 1 ≤ 300 := by omega
  obtain ⟨i0, hi0, hz0, hz1, hz2⟩ := info_parts u8row
  have hBw : B ≤ w1.heap.size := by omega
  have hgr : w.heap.size < w1.heap.size := by omega
  clear hw1
  obtain ⟨n, hnn⟩ : ∃ n, x.got.length = n := ⟨_, rfl⟩
  rw [hnn] at c3 hg2 hown hln hblk
  by_cases hz : n = 0
  all_goals
    first
      | (have hb9 := hg2 hz; subst hz; clear hg2)
      | (have hzz : ¬ (n : Int) = 0 := (by omega); clear hg2 hz)
    have HNN := hide hnn
    clear hnn
    obtain ⟨m, hm⟩ : ∃ m, x.got.length + 1 = m := ⟨_, rfl⟩
    have HM := hide hm
    clear hm
    go_wp2_with (at_builtin; refine wpList_append_own _ rfl (.tmp 26) (.tmp 28) 42 rfl B 5 i0 (.int .u8 0) 1 1 Tryd.underlying42 hi0 hz0 hz1 hz2 rfl (by decide) _ _ _ rfl (hown.alloc _) ⟨w1.heap.size, 0, none⟩ 1 1 [.int .u8 (b : Int)] rfl rfl (cell_one_new _ _ _) (by simp [Value.oneCell']) (by unfold maxLen; omega) (by omega) (by simp; omega) ?_; intro v2 w2 own2' hgrow _; have own2 : w2.ownsRow B 5 1 v2 m (u8s x.got ++ [.int .u8 (b : Int)]) := (by rw [← HM.out, HNN.out]; exact own2'); clear own2'; obtain ⟨a2, c9, rfl⟩ := own8_form own2; have hP := hide (D0.push hblk (by rw [HNN.out]; exact hown) (by rw [HM.out]; exact own2) hgrow); have hG := hide hgrow; obtain ⟨d0, d1, d2, d3, d4, d5, d6, g3, g4, g5, _⟩ := cells7 hP.out.1)
    have hD2 := hP.out.2
    have hK2 := (K0.grow hown hBw hG.out).set h.ge 3 (.slice a2 m c9)
    have hZ2 : FrBlk (w2.setCell ⟨gd, 3, none⟩ (.slice a2 m c9)) w.heap.size 0 false 0 false 0 0 ⟨#[]⟩ := by
      have hk := (((Keeps.refl B gd w1).grow hown hBw hG.out).set h.ge 3 (.slice a2 m c9)).keep w.heap.size _ _ _ Z0 (by omega) (by decide)
      exact hk
    generalize w2.setCell ⟨gd, 3, none⟩ (.slice a2 m c9) = w3 at *
    clear d0 d1 d2 d3 d4 d5 d6 g3 g4 g5 c0 c1 c2 c3 c4 c5 c6 f3 f4 f5 hP hG hown hblk D0 K0 Z0
    have hby2 : Bytes (x.got ++ [b]) := bytes_append hby (bytes_cons (by omega) bytes_nil)
    have HW := hide (wants_any false ini n1 B gd ⟨x.next, x.got ++ [b], x.bad⟩ w3 hD2 (by simp; omega) hby2)
    dsimp only at HW
    generalize hWI : wantsI n1 (x.got ++ [b]) = WI at *
    go_wp2_with fail
    refine HW.out.mono ?_
    rintro e w4 ⟨rfl, hb4⟩
    have hD4 := hD2.below hb4
    have hB3 : B ≤ w3.heap.size := Nat.le_trans hK2.below.size (Nat.le_refl _) |> fun q => by have := h.lt; omega
    have hK4 := hK2.trans (Keeps.ofBelow hB3 hb4)
    have hZ4 : FrBlk w4 w.heap.size 0 false 0 false 0 0 ⟨#[]⟩ := (hb4.block _ (Array.getElem?_eq_some_iff.1 hZ2).1).trans hZ2
    clear hD2 hK2 hZ2 hb4 HW
    by_cases hneg : WI < 0
    · have hyy : y = failsS false ⟨1, x.got ++ [b], x.bad⟩ b := by rw [← HY.out, if_pos hneg]
      have HF := hide (fails_any false ini n1 B gd ⟨x.next, x.got ++ [b], x.bad⟩ b w4 hb hD4 hx)
      go_wp2_with fail
      refine HF.out.mono ?_
      rintro e w5 ⟨rfl, hD5, hK5⟩
      have hZ5 := hK5.blk hZ4 (by omega)
      obtain ⟨z0, z1, z2, z3, z4, z5, z6, y0, y1, y2, y3, y4, y5, y6⟩ := zero_cells hZ5
      have hyd : y = failsS false ⟨x.next, x.got ++ [b], x.bad⟩ b := by rw [hyy]; rfl
      rw [← hyd] at hD5
      unfold Fr.v frV zf
      clear HF hyy hyd HY
      go_wp2
      exact ret_frame45 (frBlk_set7 hZ5 0 false 0 false 0 0 ⟨#[]⟩) rfl rfl ⟨rfl, hD5.set7 hZ5 (Nat.ne_of_lt hlt) _ _ _ _ _ _ _, (hK4.trans hK5).set7 hB (Nat.le_refl _) _ _ _ _ _ _ _⟩
    rw [if_neg hneg] at HY
    by_cases hzero : WI = 0
    · have hyy : y = ⟨2, x.got ++ [b], x.bad⟩ := by rw [← HY.out, if_pos hzero]
      subst hzero
      obtain ⟨v5, hblk5, hown5⟩ := hD4.row
      have hD5 : DefAt false ini n1 B gd ⟨2, x.got ++ [b], x.bad⟩ (w4.setCell ⟨gd, 5, none⟩ (nextF false 2 gd)) := ⟨h.ge, v5, blk_set hblk5 5 (nextF false 2 gd), own_set hown5 hblk5 (dfr_ne _ _ _ _ _ _ _) _⟩
      have hK5 := hK4.set h.ge 5 (nextF false 2 gd)
      have hZ5 : FrBlk (w4.setCell ⟨gd, 5, none⟩ (nextF false 2 gd)) w.heap.size 0 false 0 false 0 0 ⟨#[]⟩ := ((Keeps.refl B gd w4).set h.ge 5 (nextF false 2 gd)).blk hZ4 (by omega)
      rw [← hyy] at hD5
      obtain ⟨k0, k1, k2, k3, k4, k5, k6, _, _, k7, _⟩ := cells7 hblk5
      unfold nextF at hD5 hK5 hZ5
      rw [if_neg (by decide), if_neg (by decide)] at hD5 hK5 hZ5
      obtain ⟨z0, z1, z2, z3, z4, z5, z6, y0, y1, y2, y3, y4, y5, y6⟩ := zero_cells hZ5
      clear hyy HY hblk5 hown5
      go_wp2
      exact ret_frame45 (frBlk_set7 hZ5 0 false 0 false 0 0 ⟨#[]⟩) rfl rfl ⟨rfl, hD5.set7 hZ5 (Nat.ne_of_lt hlt) _ _ _ _ _ _ _, hK5.set7 hB (Nat.le_refl _) _ _ _ _ _ _ _⟩
    · have hyy : y = ⟨1, x.got ++ [b], x.bad⟩ := by rw [← HY.out, if_neg hzero]
      have hwb : (WI == 0) = false := by rw [beq_eq_false_iff_ne]; exact hzero
      rw [hn] at hD4
      rw [← hyy] at hD4
      obtain ⟨z0, z1, z2, z3, z4, z5, z6, y0, y1, y2, y3, y4, y5, y6⟩ := zero_cells hZ4
      clear hyy HY
      go_wp2
      exact ret_frame45 (frBlk_set7 hZ4 0 false 0 false 0 0 ⟨#[]⟩) rfl rfl ⟨rfl, hD4.set7 hZ4 (Nat.ne_of_lt hlt) _ _ _ _ _ _ _, hK4.set7 hB (Nat.le_refl _) _ _ _ _ _ _ _⟩
end Go.Proofs.YtnnimkailajgaaaDoor
