/- A byte of the advanced option: the walk. -/
import Derived.Test.YtnnimkailajgaaaDoorDfEnd
namespace Go.Proofs.YtnnimkailajgaaaDoor
open Go.RowKit
set_option linter.unusedVariables false
set_option linter.unusedSimpArgs false

set_option maxRecDepth 100000 in
set_option maxHeartbeats 4000000 in
theorem raw_data (ini : Bool) (n1 : Int) (B gd : Nat) (x : DS) (b : Nat) (w : World) (hb : b ≤ 255) (h : DefAt true ini n1 B gd x w) (hn : x.next = 1) (hl : x.got.length ≤ 300) (hby : Bytes x.got) (hb9 : b ≠ 126) :
    Calls Tryd.prog 15 #[.pointer (some ⟨gd, 0, none⟩), .int .u8 (b : Int)] w fun e w' => e = .returned (.tuple #[zf.v, .bool false]) ∧ DefAt true ini n1 B gd (if (x.got.length : Int) ≤ most n1 then ⟨1, x.got ++ [b], x.bad⟩ else x) w' ∧ Keeps B gd w w' := by
  have hlt := h.lt
  have hr := room_le n1
  have hB : B ≤ w.heap.size := Nat.le_trans h.ge (Nat.le_of_lt hlt)
  have K0 : Keeps B gd w (w.alloc (.cells #[.int .u8 0, .bool false, .int .u8 0, .bool false, .int .u8 0, .int .u8 0, .string ⟨#[]⟩] 30)) := Keeps.ofBelow hB ((Below.refl _ _).alloc (Nat.le_refl _) _)
  have D0 := h.alloc (.cells #[.int .u8 0, .bool false, .int .u8 0, .bool false, .int .u8 0, .int .u8 0, .string ⟨#[]⟩] 30)
  have Z0 := zblk w
  have hw1 : (w.alloc (.cells #[.int .u8 0, .bool false, .int .u8 0, .bool false, .int .u8 0, .int .u8 0, .string ⟨#[]⟩] 30)).heap.size = w.heap.size + 1 := by simp
  have hbb : ((b : Int) != 126) = true := by rw [bne_iff_ne]; omega
  obtain ⟨y, hy⟩ : ∃ y, (if (x.got.length : Int) ≤ most n1 then (⟨1, x.got ++ [b], x.bad⟩ : DS) else x) = y := ⟨_, rfl⟩
  rw [hy]
  unfold most at hy
  have HY := hide hy
  clear hy
  go_enter Tryd.func15, Tryd.ntmps15
  go_upto_region 1 with (fail)
  generalize w.alloc (.cells #[.int .u8 0, .bool false, .int .u8 0, .bool false, .int .u8 0, .int .u8 0, .string ⟨#[]⟩] 30) = w1 at *
  obtain ⟨v, hblk, hown⟩ := D0.row
  obtain ⟨c0, c1, c2, c3, c4, c5, c6, f3, f4, f5, _⟩ := cells7 hblk
  rw [show ((fl true : Nat) : Int) = 126 from rfl] at c2
  obtain ⟨av, cv, rfl⟩ := own8_form hown
  go_wp2_with fail
  refine (Bs.broom_any _ _).mono ?_
  rintro e w9 ⟨rfl, rfl⟩
  by_cases hm : (x.got.length : Int) ≤ 2 * (room n1 + 2 + 1)
  · obtain rfl : (⟨1, x.got ++ [b], x.bad⟩ : DS) = y := by rw [← HY.out, if_pos hm]
    obtain ⟨i0, hi0, hz0, hz1, hz2⟩ := info_parts u8row
    have hBw : B ≤ w1.heap.size := by omega
    have hgr : w.heap.size < w1.heap.size := by omega
    clear hw1
    go_wp2_with (at_builtin; refine wpList_append_own _ rfl (.tmp 33) (.tmp 35) 42 rfl B 5 i0 (.int .u8 0) 1 1 Tryd.underlying42 hi0 hz0 hz1 hz2 rfl (by decide) _ _ _ rfl (hown.alloc _) ⟨w1.heap.size, 0, none⟩ 1 1 [.int .u8 (b : Int)] rfl rfl (cell_one_new _ _ _) (by simp [Value.oneCell']) (by unfold maxLen; omega) (by omega) (by simp; omega) ?_; intro v2 w2 own2 hgrow _; obtain ⟨a2, c9, rfl⟩ := own8_form own2; have hP := hide (D0.push hblk hown own2 hgrow); have hG := hide hgrow; obtain ⟨d0, d1, d2, d3, d4, d5, d6, g3, g4, g5, _⟩ := cells7 hP.out.1; have hk := hide ((((Keeps.refl B gd w1).grow hown hBw hgrow).set h.ge 3 (.slice a2 (x.got.length + 1) c9)).keep w.heap.size _ _ _ Z0 (by omega) (by decide)); obtain ⟨z0, z1, z2, z3, z4, z5, z6, y0, y1, y2, y3, y4, y5, y6⟩ := zero_cells (show FrBlk (w2.setCell ⟨gd, 3, none⟩ (.slice a2 (x.got.length + 1) c9)) w.heap.size 0 false 0 false 0 0 ⟨#[]⟩ from hk.out))
    have hD2 := hP.out.2
    rw [hn] at hD2
    have hK2 := (K0.grow hown hBw hG.out).set h.ge 3 (.slice a2 (x.got.length + 1) c9)
    exact ret_frame45 (frBlk_set7 hk.out 0 false 0 false 0 0 ⟨#[]⟩) rfl rfl ⟨rfl, hD2.set7 hk.out (Nat.ne_of_lt hlt) _ _ _ _ _ _ _, hK2.set7 hB (Nat.le_refl _) _ _ _ _ _ _ _⟩
  · obtain rfl : x = y := by rw [← HY.out, if_neg hm]
    obtain ⟨z0, z1, z2, z3, z4, z5, z6, y0, y1, y2, y3, y4, y5, y6⟩ := zero_cells Z0
    go_wp2
    exact ret_frame45 (frBlk_set7 Z0 0 false 0 false 0 0 ⟨#[]⟩) rfl rfl ⟨rfl, D0.set7 Z0 (Nat.ne_of_lt hlt) _ _ _ _ _ _ _, K0.set7 hB (Nat.le_refl _) _ _ _ _ _ _ _⟩

def flagS (ini : Bool) (n1 : Int) (x : DS) : DS × Option Fr :=
  if x.got = [] then (⟨1, [], x.bad⟩, none) else if most n1 < (x.got.length : Int) then (⟨1, [], x.bad + 1⟩, none) else toldS ⟨1, [], x.bad⟩ (decO true (st x.got) ini n1)
set_option maxRecDepth 100000 in
set_option maxHeartbeats 8000000 in
theorem raw_flag (ini : Bool) (n1 : Int) (B gd : Nat) (x : DS) (w : World) (hh : ∀ W, Below B w W → Octs W) (hf : ∀ W, Below B w W → Half W) (h : DefAt true ini n1 B gd x w) (hx : x.bad ≤ 100000) (hl : x.got.length ≤ 300) (hby : Bytes x.got) :
    Calls Tryd.prog 15 #[.pointer (some ⟨gd, 0, none⟩), .int .u8 126] w fun e w' => e = .returned (.tuple #[((flagS ini n1 x).2.getD zf).v, .bool (flagS ini n1 x).2.isSome]) ∧ DefAt true ini n1 B gd (flagS ini n1 x).1 w' ∧ Keeps B gd w w' := by
  have hr := room_le n1
  obtain ⟨o, ho⟩ : ∃ o, decO true (st x.got) ini n1 = o := ⟨_, rfl⟩
  obtain ⟨z, hz⟩ : ∃ z, flagS ini n1 x = z := ⟨_, rfl⟩
  rw [hz]
  unfold flagS most at hz
  rw [ho] at hz
  have HZ := hide hz
  clear hz
  have HO := hide hh
  have HF := hide hf
  clear hh hf
  have hlt := h.lt
  have hB : B ≤ w.heap.size := Nat.le_trans h.ge (Nat.le_of_lt hlt)
  have K0 : Keeps B gd w (w.alloc (.cells #[.int .u8 0, .bool false, .int .u8 0, .bool false, .int .u8 0, .int .u8 0, .string ⟨#[]⟩] 30)) := Keeps.ofBelow hB ((Below.refl _ _).alloc (Nat.le_refl _) _)
  have D0 := h.alloc (.cells #[.int .u8 0, .bool false, .int .u8 0, .bool false, .int .u8 0, .int .u8 0, .string ⟨#[]⟩] 30)
  have Z0 := zblk w
  have hsz : (st x.got).size ≤ 100000 := by rw [st_size]; omega
  have hsl : (st x.got).size = x.got.length := st_size _
  have hs1 : w.heap.size < (w.alloc (.cells #[.int .u8 0, .bool false, .int .u8 0, .bool false, .int .u8 0, .int .u8 0, .string ⟨#[]⟩] 30)).heap.size := by simp
  go_enter Tryd.func15, Tryd.ntmps15
  go_upto_region 1 with (fail)
  generalize w.alloc (.cells #[.int .u8 0, .bool false, .int .u8 0, .bool false, .int .u8 0, .int .u8 0, .string ⟨#[]⟩] 30) = w1 at *
  obtain ⟨v, hblk, hown⟩ := D0.row
  obtain ⟨c0, c1, c2, c3, c4, c5, c6, _⟩ := cells7 hblk
  rw [show ((fl true : Nat) : Int) = 126 from rfl] at c2
  obtain ⟨av, cv, rfl⟩ := own8_form hown
  have hcv := run_own hown hby
  have HBG := hide (begin_any true ini n1 B gd x w1 D0)
  clear hblk hown
  go_wp2_with fail
  refine (Bs.broom_any _ _).mono ?_
  rintro e w9 ⟨rfl, rfl⟩
  go_wp2_with fail
  refine HBG.out.mono ?_
  rintro e w4 ⟨rfl, D1, k4⟩
  have K1 := K0.trans k4
  have Z1 := k4.blk Z0 (by omega)
  have hlt1 := Nat.lt_of_lt_of_le hs1 k4.below.size
  have hB1 : B ≤ w4.heap.size := by omega
  clear K0 k4 Z0 c0 c1 c2 c3 c4 c5 c6 HBG hcv D0 hs1
  have hlt4 := D1.lt
  by_cases hg : x.got = []
  · obtain rfl : ((⟨1, [], x.bad⟩ : DS), (none : Option Fr)) = z := by rw [← HZ.out, if_pos hg]
    rw [hg]
    rw [show st ([] : List Nat) = ⟨#[]⟩ from rfl]
    obtain ⟨z0, z1, z2, z3, z4, z5, z6, y0, y1, y2, y3, y4, y5, y6⟩ := zero_cells Z1
    go_wp2
    exact ret_frame45 (frBlk_set7 Z1 0 false 0 false 0 0 ⟨#[]⟩) rfl rfl ⟨rfl, D1.set7 Z1 (Nat.ne_of_lt hlt) _ _ _ _ _ _ _, K1.set7 hB (Nat.le_refl _) _ _ _ _ _ _ _⟩
  rw [if_neg hg] at HZ
  have hgp : 0 < x.got.length := by
    rcases Nat.eq_zero_or_pos x.got.length with h0 | h0
    · exact absurd (List.eq_nil_of_length_eq_zero h0) hg
    · exact h0
  obtain ⟨hne, hem⟩ := ne_empty (st x.got) (by omega)
  by_cases hm : 2 * (room n1 + 2 + 1) < (x.got.length : Int)
  · obtain rfl : ((⟨1, [], x.bad + 1⟩ : DS), (none : Option Fr)) = z := by rw [← HZ.out, if_pos hm]
    have hm2 : 2 * (room n1 + 2 + 1) < ((st x.got).size : Int) := by omega
    have HT := hide (told_no true ini n1 B gd ⟨1, [], x.bad⟩ 3 w4 D1 hx (by decide))
    clear hsl
    go_wp2_with fail
    refine HT.out.mono ?_
    rintro e w5 ⟨rfl, hD5, hK5⟩
    have hZ5 := hK5.blk Z1 (by omega)
    obtain ⟨z0, z1, z2, z3, z4, z5, z6, y0, y1, y2, y3, y4, y5, y6⟩ := zero_cells hZ5
    unfold Fr.v frV zf
    clear HT
    go_wp2
    exact ret_frame45 (frBlk_set7 hZ5 0 false 0 false 0 0 ⟨#[]⟩) rfl rfl ⟨rfl, hD5.set7 hZ5 (Nat.ne_of_lt hlt) _ _ _ _ _ _ _, (K1.trans hK5).set7 hB (Nat.le_refl _) _ _ _ _ _ _ _⟩
  rw [if_neg hm] at HZ
  obtain rfl : toldS ⟨1, [], x.bad⟩ o = z := HZ.out
  have hm2 : ¬ 2 * (room n1 + 2 + 1) < ((st x.got).size : Int) := by omega
  clear hsl HZ
  go_upto_region 12 with (fail)
  cases o with
  | some f =>
    obtain ⟨d, c, k, p, s, r, i⟩ := f
    have hE : decR (st x.got) ini n1 = .returned (.tuple #[frV d c k p s r i, .int .i64 0]) := (decO_some ho).2.1
    unfold frV at hE
    refine wp_region_held (S := fun W => ∃ X, DefAt true ini n1 B gd X W) (by kernel_rfl) ?_
    change wpAnyH _ _ _ _ _ _ _ _ (World.drew _)
    have D1 : DefAt true ini n1 B gd ⟨1, [], x.bad⟩ w4.drew := D1.drewN 1
    have K1 : Keeps B gd w w4.drew := ⟨below_drewN K1.below 1, K1.keep⟩
    have Z1 : FrBlk w4.drew w.heap.size 0 false 0 false 0 0 ⟨#[]⟩ := Z1
    have hlt1 : w.heap.size < w4.drew.heap.size := hlt1
    have hB1 : B ≤ w4.drew.heap.size := hB1
    have hS : ∃ X, DefAt true ini n1 B gd X w4.drew := ⟨_, D1⟩
    generalize w4.drew = w4' at *
    refine take_atH 0 61 hS rfl rfl (by kernel_rfl) (by kernel_rfl) (by kernel_rfl) (fun _ _ _ h => h) rfl (fun wq hq => by go_simp; first | done | with_reducible rfl) ?_
    simp only [Act.put, List.setIfInBounds_toArray, List.set_cons_zero, List.set_cons_succ]
    refine take_atH 1 62 hS rfl rfl (by kernel_rfl) (by kernel_rfl) (by kernel_rfl) (fun _ _ _ h => h) rfl (fun wq hq => by go_simp; first | done | with_reducible rfl) ?_
    simp only [Act.put, List.setIfInBounds_toArray, List.set_cons_zero, List.set_cons_succ]
    refine take_atH 2 63 hS rfl rfl (by kernel_rfl) (by kernel_rfl) (by kernel_rfl) (fun _ _ _ h => h) rfl (fun wq hq => by go_simp; first | done | with_reducible rfl) ?_
    simp only [Act.put, List.setIfInBounds_toArray, List.set_cons_zero, List.set_cons_succ]
    refine take_atH 3 64 hS rfl rfl (by kernel_rfl) (by kernel_rfl) (by kernel_rfl) (fun _ _ _ h => h) rfl (fun wq hq => by go_simp; first | done | with_reducible rfl) ?_
    simp only [Act.put, List.setIfInBounds_toArray, List.set_cons_zero, List.set_cons_succ]
    refine take_atH 4 65 hS rfl rfl (by kernel_rfl) (by kernel_rfl) (by kernel_rfl) (fun _ _ _ h => h) rfl (fun wq hq => by go_simp; first | done | with_reducible rfl) ?_
    simp only [Act.put, List.setIfInBounds_toArray, List.set_cons_zero, List.set_cons_succ]
    refine take_atH 5 66 hS rfl rfl (by kernel_rfl) (by kernel_rfl) (by kernel_rfl) (fun _ _ _ h => h) rfl (fun wq hq => by obtain ⟨X, hq⟩ := hq; obtain ⟨vq, hbq, _⟩ := hq.row; obtain ⟨q0, q1, _⟩ := cells7 hbq; go_simp; first | done | with_reducible rfl) ?_
    simp only [Act.put, List.setIfInBounds_toArray, List.set_cons_zero, List.set_cons_succ]
    refine take_atH 6 67 hS rfl rfl (by kernel_rfl) (by kernel_rfl) (by kernel_rfl) (fun _ _ _ h => h) rfl (fun wq hq => by go_simp; first | done | with_reducible rfl) ?_
    simp only [Act.put, List.setIfInBounds_toArray, List.set_cons_zero, List.set_cons_succ]
    refine take_atH 7 68 hS rfl rfl (by kernel_rfl) (by kernel_rfl) (by kernel_rfl) (fun _ _ _ h => h) rfl (fun wq hq => by go_simp; first | done | with_reducible rfl) ?_
    simp only [Act.put, List.setIfInBounds_toArray, List.set_cons_zero, List.set_cons_succ]
    refine take_atH 8 69 hS rfl rfl (by kernel_rfl) (by kernel_rfl) (by kernel_rfl) (fun _ _ _ h => h) rfl (fun wq hq => by go_simp; first | done | with_reducible rfl) ?_
    simp only [Act.put, List.setIfInBounds_toArray, List.set_cons_zero, List.set_cons_succ]
    refine take_atH 9 70 hS rfl rfl (by kernel_rfl) (by kernel_rfl) (by kernel_rfl) (fun _ _ _ h => h) rfl (fun wq hq => by obtain ⟨X, hq⟩ := hq; obtain ⟨vq, hbq, _⟩ := hq.row; obtain ⟨q0, q1, _⟩ := cells7 hbq; go_simp; first | done | with_reducible rfl) ?_
    simp only [Act.put, List.setIfInBounds_toArray, List.set_cons_zero, List.set_cons_succ]
    refine lone_atH 10 rfl (by kernel_rfl) rfl (fun K hK => ?_)
    go_simp
    refine (decode_any _ _ _ _ (HO.out _ K1.below) (HF.out _ K1.below) hsz).mono ?_; rintro e w5 ⟨rfl, b5⟩; rw [hE]; have D5 := D1.below b5; have K5 := K1.trans (Keeps.ofBelow hB1 b5); have Z5 : FrBlk w5 w.heap.size 0 false 0 false 0 0 ⟨#[]⟩ := (b5.block _ hlt1).trans Z1
    refine (fun hN1 => hK _ _ hN1 ?_) (⟨_, D5⟩); clear hK K
    refine take_atH 11 72 hN1 rfl rfl (by kernel_rfl) (by kernel_rfl) (by kernel_rfl) (fun _ _ _ h => h) rfl (fun wq hq => by go_simp; first | done | with_reducible rfl) ?_
    simp only [Act.put, List.setIfInBounds_toArray, List.set_cons_zero, List.set_cons_succ]
    refine take_atH 12 73 hN1 rfl rfl (by kernel_rfl) (by kernel_rfl) (by kernel_rfl) (fun _ _ _ h => h) rfl (fun wq hq => by go_simp; first | done | with_reducible rfl) ?_
    simp only [Act.put, List.setIfInBounds_toArray, List.set_cons_zero, List.set_cons_succ]
    refine lone_atH 13 rfl (by kernel_rfl) rfl (fun K hK => ?_)
    go_simp
    refine (told_ok true ini n1 B gd _ ⟨d, c, k, p, s, r, i⟩ w5 D5 hx).mono ?_; rintro e w6 ⟨rfl, D6, k6⟩; have K6 := K5.trans k6; have Z6 := k6.blk Z5 (by omega); obtain ⟨z0, z1, z2, z3, z4, z5, z6, y0, y1, y2, y3, y4, y5, y6⟩ := zero_cells Z6; unfold Fr.v frV
    refine (fun hN2 => hK _ _ hN2 ?_) (⟨_, D6⟩); clear hK K
    refine take_atH 14 75 hN2 rfl rfl (by kernel_rfl) (by kernel_rfl) (by kernel_rfl) (fun _ _ _ h => h) rfl (fun wq hq => by go_simp; first | done | with_reducible rfl) ?_
    simp only [Act.put, List.setIfInBounds_toArray, List.set_cons_zero, List.set_cons_succ]
    refine take_atH 15 76 hN2 rfl rfl (by kernel_rfl) (by kernel_rfl) (by kernel_rfl) (fun _ _ _ h => h) rfl (fun wq hq => by go_simp; first | done | with_reducible rfl) ?_
    simp only [Act.put, List.setIfInBounds_toArray, List.set_cons_zero, List.set_cons_succ]
    refine lone_atH 16 rfl (by kernel_rfl) rfl (fun K hK => ?_)
    go_simp
    refine (fun hN3 => hK _ _ hN3 ?_) (⟨_, D6.set7 Z6 (Nat.ne_of_lt hlt) _ _ _ _ _ _ _⟩); clear hK K
    refine take_atH 17 5 hN3 rfl rfl (by kernel_rfl) (by kernel_rfl) (by kernel_rfl) (fun _ _ _ h => h) rfl (fun wq hq => by go_simp; first | done | with_reducible rfl) ?_
    simp only [Act.put, List.setIfInBounds_toArray, List.set_cons_zero, List.set_cons_succ]
    refine wpAnyH_done (by kernel_rfl) ?_ _
    go_wp2
    exact ret_frame45 (frBlk_set7 Z6 d c k p s r i) rfl rfl ⟨rfl, D6.set7 Z6 (Nat.ne_of_lt hlt) _ _ _ _ _ _ _, K6.set7 hB (Nat.le_refl _) _ _ _ _ _ _ _⟩
  | none =>
    obtain ⟨e0, he0, hE⟩ := decO_none ho
    replace hE : decR (st x.got) ini n1 = .returned (.tuple #[frV 0 false 0 false 0 0 ⟨#[]⟩, .int .i64 e0]) := hE
    unfold frV at hE
    refine wp_region_held (S := fun W => ∃ X, DefAt true ini n1 B gd X W) (by kernel_rfl) ?_
    change wpAnyH _ _ _ _ _ _ _ _ (World.drew _)
    have D1 : DefAt true ini n1 B gd ⟨1, [], x.bad⟩ w4.drew := D1.drewN 1
    have K1 : Keeps B gd w w4.drew := ⟨below_drewN K1.below 1, K1.keep⟩
    have Z1 : FrBlk w4.drew w.heap.size 0 false 0 false 0 0 ⟨#[]⟩ := Z1
    have hlt1 : w.heap.size < w4.drew.heap.size := hlt1
    have hB1 : B ≤ w4.drew.heap.size := hB1
    have hS : ∃ X, DefAt true ini n1 B gd X w4.drew := ⟨_, D1⟩
    generalize w4.drew = w4' at *
    refine take_atH 0 61 hS rfl rfl (by kernel_rfl) (by kernel_rfl) (by kernel_rfl) (fun _ _ _ h => h) rfl (fun wq hq => by go_simp; first | done | with_reducible rfl) ?_
    simp only [Act.put, List.setIfInBounds_toArray, List.set_cons_zero, List.set_cons_succ]
    refine take_atH 1 62 hS rfl rfl (by kernel_rfl) (by kernel_rfl) (by kernel_rfl) (fun _ _ _ h => h) rfl (fun wq hq => by go_simp; first | done | with_reducible rfl) ?_
    simp only [Act.put, List.setIfInBounds_toArray, List.set_cons_zero, List.set_cons_succ]
    refine take_atH 2 63 hS rfl rfl (by kernel_rfl) (by kernel_rfl) (by kernel_rfl) (fun _ _ _ h => h) rfl (fun wq hq => by go_simp; first | done | with_reducible rfl) ?_
    simp only [Act.put, List.setIfInBounds_toArray, List.set_cons_zero, List.set_cons_succ]
    refine take_atH 3 64 hS rfl rfl (by kernel_rfl) (by kernel_rfl) (by kernel_rfl) (fun _ _ _ h => h) rfl (fun wq hq => by go_simp; first | done | with_reducible rfl) ?_
    simp only [Act.put, List.setIfInBounds_toArray, List.set_cons_zero, List.set_cons_succ]
    refine take_atH 4 65 hS rfl rfl (by kernel_rfl) (by kernel_rfl) (by kernel_rfl) (fun _ _ _ h => h) rfl (fun wq hq => by go_simp; first | done | with_reducible rfl) ?_
    simp only [Act.put, List.setIfInBounds_toArray, List.set_cons_zero, List.set_cons_succ]
    refine take_atH 5 66 hS rfl rfl (by kernel_rfl) (by kernel_rfl) (by kernel_rfl) (fun _ _ _ h => h) rfl (fun wq hq => by obtain ⟨X, hq⟩ := hq; obtain ⟨vq, hbq, _⟩ := hq.row; obtain ⟨q0, q1, _⟩ := cells7 hbq; go_simp; first | done | with_reducible rfl) ?_
    simp only [Act.put, List.setIfInBounds_toArray, List.set_cons_zero, List.set_cons_succ]
    refine take_atH 6 67 hS rfl rfl (by kernel_rfl) (by kernel_rfl) (by kernel_rfl) (fun _ _ _ h => h) rfl (fun wq hq => by go_simp; first | done | with_reducible rfl) ?_
    simp only [Act.put, List.setIfInBounds_toArray, List.set_cons_zero, List.set_cons_succ]
    refine take_atH 7 68 hS rfl rfl (by kernel_rfl) (by kernel_rfl) (by kernel_rfl) (fun _ _ _ h => h) rfl (fun wq hq => by go_simp; first | done | with_reducible rfl) ?_
    simp only [Act.put, List.setIfInBounds_toArray, List.set_cons_zero, List.set_cons_succ]
    refine take_atH 8 69 hS rfl rfl (by kernel_rfl) (by kernel_rfl) (by kernel_rfl) (fun _ _ _ h => h) rfl (fun wq hq => by go_simp; first | done | with_reducible rfl) ?_
    simp only [Act.put, List.setIfInBounds_toArray, List.set_cons_zero, List.set_cons_succ]
    refine take_atH 9 70 hS rfl rfl (by kernel_rfl) (by kernel_rfl) (by kernel_rfl) (fun _ _ _ h => h) rfl (fun wq hq => by obtain ⟨X, hq⟩ := hq; obtain ⟨vq, hbq, _⟩ := hq.row; obtain ⟨q0, q1, _⟩ := cells7 hbq; go_simp; first | done | with_reducible rfl) ?_
    simp only [Act.put, List.setIfInBounds_toArray, List.set_cons_zero, List.set_cons_succ]
    refine lone_atH 10 rfl (by kernel_rfl) rfl (fun K hK => ?_)
    go_simp
    refine (decode_any _ _ _ _ (HO.out _ K1.below) (HF.out _ K1.below) hsz).mono ?_; rintro e w5 ⟨rfl, b5⟩; rw [hE]; have D5 := D1.below b5; have K5 := K1.trans (Keeps.ofBelow hB1 b5); have Z5 : FrBlk w5 w.heap.size 0 false 0 false 0 0 ⟨#[]⟩ := (b5.block _ hlt1).trans Z1
    refine (fun hN1 => hK _ _ hN1 ?_) (⟨_, D5⟩); clear hK K
    refine take_atH 11 72 hN1 rfl rfl (by kernel_rfl) (by kernel_rfl) (by kernel_rfl) (fun _ _ _ h => h) rfl (fun wq hq => by go_simp; first | done | with_reducible rfl) ?_
    simp only [Act.put, List.setIfInBounds_toArray, List.set_cons_zero, List.set_cons_succ]
    refine take_atH 12 73 hN1 rfl rfl (by kernel_rfl) (by kernel_rfl) (by kernel_rfl) (fun _ _ _ h => h) rfl (fun wq hq => by go_simp; first | done | with_reducible rfl) ?_
    simp only [Act.put, List.setIfInBounds_toArray, List.set_cons_zero, List.set_cons_succ]
    refine lone_atH 13 rfl (by kernel_rfl) rfl (fun K hK => ?_)
    go_simp
    refine (told_no true ini n1 B gd _ e0 w5 D5 hx he0).mono ?_; rintro e w6 ⟨rfl, D6, k6⟩; have K6 := K5.trans k6; have Z6 := k6.blk Z5 (by omega); obtain ⟨z0, z1, z2, z3, z4, z5, z6, y0, y1, y2, y3, y4, y5, y6⟩ := zero_cells Z6; unfold Fr.v frV zf
    refine (fun hN2 => hK _ _ hN2 ?_) (⟨_, D6⟩); clear hK K
    refine take_atH 14 75 hN2 rfl rfl (by kernel_rfl) (by kernel_rfl) (by kernel_rfl) (fun _ _ _ h => h) rfl (fun wq hq => by go_simp; first | done | with_reducible rfl) ?_
    simp only [Act.put, List.setIfInBounds_toArray, List.set_cons_zero, List.set_cons_succ]
    refine take_atH 15 76 hN2 rfl rfl (by kernel_rfl) (by kernel_rfl) (by kernel_rfl) (fun _ _ _ h => h) rfl (fun wq hq => by go_simp; first | done | with_reducible rfl) ?_
    simp only [Act.put, List.setIfInBounds_toArray, List.set_cons_zero, List.set_cons_succ]
    refine lone_atH 16 rfl (by kernel_rfl) rfl (fun K hK => ?_)
    go_simp
    refine (fun hN3 => hK _ _ hN3 ?_) (⟨_, D6.set7 Z6 (Nat.ne_of_lt hlt) _ _ _ _ _ _ _⟩); clear hK K
    refine take_atH 17 5 hN3 rfl rfl (by kernel_rfl) (by kernel_rfl) (by kernel_rfl) (fun _ _ _ h => h) rfl (fun wq hq => by go_simp; first | done | with_reducible rfl) ?_
    simp only [Act.put, List.setIfInBounds_toArray, List.set_cons_zero, List.set_cons_succ]
    refine wpAnyH_done (by kernel_rfl) ?_ _
    go_wp2
    exact ret_frame45 (frBlk_set7 Z6 0 false 0 false 0 0 ⟨#[]⟩) rfl rfl ⟨rfl, D6.set7 Z6 (Nat.ne_of_lt hlt) _ _ _ _ _ _ _, K6.set7 hB (Nat.le_refl _) _ _ _ _ _ _ _⟩
end Go.Proofs.YtnnimkailajgaaaDoor
