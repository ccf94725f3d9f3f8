/- The flag behind a body: the walk. -/
import Derived.Test.YtnnimkailajgaaaDoorDfBody
namespace Go.Proofs.YtnnimkailajgaaaDoor
open Go.RowKit
set_option linter.unusedVariables false
set_option linter.unusedSimpArgs false

def endS (ini : Bool) (n1 : Int) (x : DS) (b : Nat) : DS × Option Fr := if b ≠ 249 then (failsS false x b, none) else toldS ⟨1, [], x.bad⟩ (decO false (st x.got) ini n1)

set_option maxRecDepth 100000 in
set_option maxHeartbeats 4000000 in
theorem end_bad (ini : Bool) (n1 : Int) (B gd : Nat) (x : DS) (b : Nat) (w : World) (hb : b ≤ 255) (h : DefAt false ini n1 B gd x w) (hx : x.bad ≤ 100000) (hb9 : b ≠ 249) :
    Calls Tryd.prog 21 #[.pointer (some ⟨gd, 0, none⟩), .int .u8 (b : Int)] w fun e w' => e = .returned (.tuple #[zf.v, .bool false]) ∧ DefAt false ini n1 B gd (failsS false x b) w' ∧ Keeps B gd w w' := by
  have hlt := h.lt
  have hB : B ≤ w.heap.size := Nat.le_trans h.ge (Nat.le_of_lt hlt)
  have K0 : Keeps B gd w (w.alloc (.cells #[.int .u8 0, .bool false, .int .u8 0, .bool false, .int .u8 0, .int .u8 0, .string ⟨#[]⟩] 30)) := Keeps.ofBelow hB ((Below.refl _ _).alloc (Nat.le_refl _) _)
  have D0 := h.alloc (.cells #[.int .u8 0, .bool false, .int .u8 0, .bool false, .int .u8 0, .int .u8 0, .string ⟨#[]⟩] 30)
  have Z0 := zblk w
  have hbb : ((b : Int) != 249) = true := by rw [bne_iff_ne]; omega
  go_enter Tryd.func21, Tryd.ntmps21
  go_upto_region 1 with (fail)
  generalize w.alloc (.cells #[.int .u8 0, .bool false, .int .u8 0, .bool false, .int .u8 0, .int .u8 0, .string ⟨#[]⟩] 30) = w1 at *
  obtain ⟨v, hblk, hown⟩ := D0.row
  obtain ⟨c0, c1, c2, c3, c4, c5, c6, _⟩ := cells7 hblk
  rw [show ((fl false : Nat) : Int) = 249 from rfl] at c2
  have HF := hide (fails_any false ini n1 B gd x b w1 hb D0 hx)
  go_wp2_with fail
  refine HF.out.mono ?_
  rintro e w5 ⟨rfl, hD5, hK5⟩
  have hZ5 := hK5.blk Z0 (by omega)
  obtain ⟨z0, z1, z2, z3, z4, z5, z6, y0, y1, y2, y3, y4, y5, y6⟩ := zero_cells hZ5
  unfold Fr.v frV zf
  clear HF hblk c0 c1 c2 c3 c4 c5 c6
  go_wp2
  exact ret_frame45 (frBlk_set7 hZ5 0 false 0 false 0 0 ⟨#[]⟩) rfl rfl ⟨rfl, hD5.set7 hZ5 (Nat.ne_of_lt hlt) _ _ _ _ _ _ _, (K0.trans hK5).set7 hB (Nat.le_refl _) _ _ _ _ _ _ _⟩

set_option maxRecDepth 100000 in
set_option maxHeartbeats 8000000 in
theorem end_flag (ini : Bool) (n1 : Int) (B gd : Nat) (x : DS) (w : World) (hh : ∀ W, Below B w W → Octs W) (hf : ∀ W, Below B w W → Half W) (h : DefAt false ini n1 B gd x w) (hx : x.bad ≤ 100000) (hl : x.got.length ≤ 300) (hby : Bytes x.got) :
    Calls Tryd.prog 21 #[.pointer (some ⟨gd, 0, none⟩), .int .u8 249] w fun e w' => e = .returned (.tuple #[((toldS ⟨1, [], x.bad⟩ (decO false (st x.got) ini n1)).2.getD zf).v, .bool (toldS ⟨1, [], x.bad⟩ (decO false (st x.got) ini n1)).2.isSome]) ∧ DefAt false ini n1 B gd (toldS ⟨1, [], x.bad⟩ (decO false (st x.got) ini n1)).1 w' ∧ Keeps B gd w w' := by
  obtain ⟨o, ho⟩ : ∃ o, decO false (st x.got) ini n1 = o := ⟨_, rfl⟩
  rw [ho]
  have HO := hide hh
  have HF := hide hf
  clear hh hf
  have hlt := h.lt
  have hB : B ≤ w.heap.size := Nat.le_trans h.ge (Nat.le_of_lt hlt)
  have K0 : Keeps B gd w (w.alloc (.cells #[.int .u8 0, .bool false, .int .u8 0, .bool false, .int .u8 0, .int .u8 0, .string ⟨#[]⟩] 30)) := Keeps.ofBelow hB ((Below.refl _ _).alloc (Nat.le_refl _) _)
  have D0 := h.alloc (.cells #[.int .u8 0, .bool false, .int .u8 0, .bool false, .int .u8 0, .int .u8 0, .string ⟨#[]⟩] 30)
  have Z0 := zblk w
  have hsz : (st x.got).size ≤ 100000 := by rw [st_size]; omega
  have hs1 : w.heap.size < (w.alloc (.cells #[.int .u8 0, .bool false, .int .u8 0, .bool false, .int .u8 0, .int .u8 0, .string ⟨#[]⟩] 30)).heap.size := by simp
  go_enter Tryd.func21, Tryd.ntmps21
  go_upto_region 1 with (fail)
  generalize w.alloc (.cells #[.int .u8 0, .bool false, .int .u8 0, .bool false, .int .u8 0, .int .u8 0, .string ⟨#[]⟩] 30) = w1 at *
  obtain ⟨v, hblk, hown⟩ := D0.row
  obtain ⟨c0, c1, c2, c3, c4, c5, c6, _⟩ := cells7 hblk
  rw [show ((fl false : Nat) : Int) = 249 from rfl] at c2
  obtain ⟨av, cv, rfl⟩ := own8_form hown
  have hcv := run_own hown hby
  have HBG := hide (begin_any false ini n1 B gd x w1 D0)
  clear hblk hown
  go_wp2_with fail
  refine HBG.out.mono ?_
  rintro e w4 ⟨rfl, D1, k4⟩
  have K1 := K0.trans k4
  have Z1 := k4.blk Z0 (by omega)
  have hlt1 := Nat.lt_of_lt_of_le hs1 k4.below.size
  have hB1 : B ≤ w4.heap.size := by omega
  clear K0 k4 Z0 c0 c1 c2 c3 c4 c5 c6 HBG hcv D0 hs1
  have hlt4 := D1.lt
  go_upto_region 5 with (fail)
  cases o with
  | some f =>
    obtain ⟨d, c, k, p, s, r, i⟩ := f
    have hE : Bs.decT4 (st x.got) ini n1 = .returned (.tuple #[frV d c k p s r i, .int .i64 0]) := (decO_some ho).2.1
    unfold frV at hE
    refine wp_region_held (S := fun W => ∃ X, DefAt false ini n1 B gd X W) (by kernel_rfl) ?_
    change wpAnyH _ _ _ _ _ _ _ _ (World.drew _)
    have D1 : DefAt false ini n1 B gd ⟨1, [], x.bad⟩ w4.drew := D1.drewN 1
    have K1 : Keeps B gd w w4.drew := ⟨below_drewN K1.below 1, K1.keep⟩
    have Z1 : FrBlk w4.drew w.heap.size 0 false 0 false 0 0 ⟨#[]⟩ := Z1
    have hlt1 : w.heap.size < w4.drew.heap.size := hlt1
    have hB1 : B ≤ w4.drew.heap.size := hB1
    have hS : ∃ X, DefAt false ini n1 B gd X w4.drew := ⟨_, D1⟩
    generalize w4.drew = w4' at *
    refine take_atH 0 25 hS rfl rfl (by kernel_rfl) (by kernel_rfl) (by kernel_rfl) (fun _ _ _ h => h) rfl (fun wq hq => by go_simp; first | done | with_reducible rfl) ?_
    simp only [Act.put, List.setIfInBounds_toArray, List.set_cons_zero, List.set_cons_succ]
    refine take_atH 1 26 hS rfl rfl (by kernel_rfl) (by kernel_rfl) (by kernel_rfl) (fun _ _ _ h => h) rfl (fun wq hq => by go_simp; first | done | with_reducible rfl) ?_
    simp only [Act.put, List.setIfInBounds_toArray, List.set_cons_zero, List.set_cons_succ]
    refine take_atH 2 27 hS rfl rfl (by kernel_rfl) (by kernel_rfl) (by kernel_rfl) (fun _ _ _ h => h) rfl (fun wq hq => by go_simp; first | done | with_reducible rfl) ?_
    simp only [Act.put, List.setIfInBounds_toArray, List.set_cons_zero, List.set_cons_succ]
    refine take_atH 3 28 hS rfl rfl (by kernel_rfl) (by kernel_rfl) (by kernel_rfl) (fun _ _ _ h => h) rfl (fun wq hq => by go_simp; first | done | with_reducible rfl) ?_
    simp only [Act.put, List.setIfInBounds_toArray, List.set_cons_zero, List.set_cons_succ]
    refine take_atH 4 29 hS rfl rfl (by kernel_rfl) (by kernel_rfl) (by kernel_rfl) (fun _ _ _ h => h) rfl (fun wq hq => by go_simp; first | done | with_reducible rfl) ?_
    simp only [Act.put, List.setIfInBounds_toArray, List.set_cons_zero, List.set_cons_succ]
    refine take_atH 5 30 hS rfl rfl (by kernel_rfl) (by kernel_rfl) (by kernel_rfl) (fun _ _ _ h => h) rfl (fun wq hq => by obtain ⟨X, hq⟩ := hq; obtain ⟨vq, hbq, _⟩ := hq.row; obtain ⟨q0, q1, _⟩ := cells7 hbq; go_simp; first | done | with_reducible rfl) ?_
    simp only [Act.put, List.setIfInBounds_toArray, List.set_cons_zero, List.set_cons_succ]
    refine take_atH 6 31 hS rfl rfl (by kernel_rfl) (by kernel_rfl) (by kernel_rfl) (fun _ _ _ h => h) rfl (fun wq hq => by go_simp; first | done | with_reducible rfl) ?_
    simp only [Act.put, List.setIfInBounds_toArray, List.set_cons_zero, List.set_cons_succ]
    refine take_atH 7 32 hS rfl rfl (by kernel_rfl) (by kernel_rfl) (by kernel_rfl) (fun _ _ _ h => h) rfl (fun wq hq => by go_simp; first | done | with_reducible rfl) ?_
    simp only [Act.put, List.setIfInBounds_toArray, List.set_cons_zero, List.set_cons_succ]
    refine take_atH 8 33 hS rfl rfl (by kernel_rfl) (by kernel_rfl) (by kernel_rfl) (fun _ _ _ h => h) rfl (fun wq hq => by go_simp; first | done | with_reducible rfl) ?_
    simp only [Act.put, List.setIfInBounds_toArray, List.set_cons_zero, List.set_cons_succ]
    refine take_atH 9 34 hS rfl rfl (by kernel_rfl) (by kernel_rfl) (by kernel_rfl) (fun _ _ _ h => h) rfl (fun wq hq => by obtain ⟨X, hq⟩ := hq; obtain ⟨vq, hbq, _⟩ := hq.row; obtain ⟨q0, q1, _⟩ := cells7 hbq; go_simp; first | done | with_reducible rfl) ?_
    simp only [Act.put, List.setIfInBounds_toArray, List.set_cons_zero, List.set_cons_succ]
    refine lone_atH 10 rfl (by kernel_rfl) rfl (fun K hK => ?_)
    go_simp
    refine (Bs.bdecode_any _ _ _ _ (HO.out _ K1.below) (HF.out _ K1.below) hsz).mono ?_; rintro e w5 ⟨rfl, b5⟩; rw [hE]; have D5 := D1.below b5; have K5 := K1.trans (Keeps.ofBelow hB1 b5); have Z5 : FrBlk w5 w.heap.size 0 false 0 false 0 0 ⟨#[]⟩ := (b5.block _ hlt1).trans Z1
    refine (fun hN1 => hK _ _ hN1 ?_) (⟨_, D5⟩); clear hK K
    refine take_atH 11 36 hN1 rfl rfl (by kernel_rfl) (by kernel_rfl) (by kernel_rfl) (fun _ _ _ h => h) rfl (fun wq hq => by go_simp; first | done | with_reducible rfl) ?_
    simp only [Act.put, List.setIfInBounds_toArray, List.set_cons_zero, List.set_cons_succ]
    refine take_atH 12 37 hN1 rfl rfl (by kernel_rfl) (by kernel_rfl) (by kernel_rfl) (fun _ _ _ h => h) rfl (fun wq hq => by go_simp; first | done | with_reducible rfl) ?_
    simp only [Act.put, List.setIfInBounds_toArray, List.set_cons_zero, List.set_cons_succ]
    refine lone_atH 13 rfl (by kernel_rfl) rfl (fun K hK => ?_)
    go_simp
    refine (told_ok false ini n1 B gd _ ⟨d, c, k, p, s, r, i⟩ w5 D5 hx).mono ?_; rintro e w6 ⟨rfl, D6, k6⟩; have K6 := K5.trans k6; have Z6 := k6.blk Z5 (by omega); obtain ⟨z0, z1, z2, z3, z4, z5, z6, y0, y1, y2, y3, y4, y5, y6⟩ := zero_cells Z6; unfold Fr.v frV
    refine (fun hN2 => hK _ _ hN2 ?_) (⟨_, D6⟩); clear hK K
    refine take_atH 14 39 hN2 rfl rfl (by kernel_rfl) (by kernel_rfl) (by kernel_rfl) (fun _ _ _ h => h) rfl (fun wq hq => by go_simp; first | done | with_reducible rfl) ?_
    simp only [Act.put, List.setIfInBounds_toArray, List.set_cons_zero, List.set_cons_succ]
    refine take_atH 15 40 hN2 rfl rfl (by kernel_rfl) (by kernel_rfl) (by kernel_rfl) (fun _ _ _ h => h) rfl (fun wq hq => by go_simp; first | done | with_reducible rfl) ?_
    simp only [Act.put, List.setIfInBounds_toArray, List.set_cons_zero, List.set_cons_succ]
    refine lone_atH 16 rfl (by kernel_rfl) rfl (fun K hK => ?_)
    go_simp
    refine (fun hN3 => hK _ _ hN3 ?_) (⟨_, D6.set7 Z6 (Nat.ne_of_lt hlt) _ _ _ _ _ _ _⟩); clear hK K
    refine take_atH 17 5 hN3 rfl rfl (by kernel_rfl) (by kernel_rfl) (by kernel_rfl) (fun _ _ _ h => h) rfl (fun wq hq => by go_simp; first | done | with_reducible rfl) ?_
    simp only [Act.put, List.setIfInBounds_toArray, List.set_cons_zero, List.set_cons_succ]
    refine wpAnyH_done (by kernel_rfl) ?_ _
    go_wp2
    exact ret_frame45 (frBlk_set7 Z6 d c k p s r i) rfl rfl ⟨rfl, D6.set7 Z6 (Nat.ne_of_lt hlt) _ _ _ _ _ _ _, K6.set7 hB (Nat.le_refl _) _ _ _ _ _ _ _⟩
  | none =>
    obtain ⟨e0, he0, hE⟩ := decO_none ho
    replace hE : Bs.decT4 (st x.got) ini n1 = .returned (.tuple #[frV 0 false 0 false 0 0 ⟨#[]⟩, .int .i64 e0]) := hE
    unfold frV at hE
    refine wp_region_held (S := fun W => ∃ X, DefAt false ini n1 B gd X W) (by kernel_rfl) ?_
    change wpAnyH _ _ _ _ _ _ _ _ (World.drew _)
    have D1 : DefAt false ini n1 B gd ⟨1, [], x.bad⟩ w4.drew := D1.drewN 1
    have K1 : Keeps B gd w w4.drew := ⟨below_drewN K1.below 1, K1.keep⟩
    have Z1 : FrBlk w4.drew w.heap.size 0 false 0 false 0 0 ⟨#[]⟩ := Z1
    have hlt1 : w.heap.size < w4.drew.heap.size := hlt1
    have hB1 : B ≤ w4.drew.heap.size := hB1
    have hS : ∃ X, DefAt false ini n1 B gd X w4.drew := ⟨_, D1⟩
    generalize w4.drew = w4' at *
    refine take_atH 0 25 hS rfl rfl (by kernel_rfl) (by kernel_rfl) (by kernel_rfl) (fun _ _ _ h => h) rfl (fun wq hq => by go_simp; first | done | with_reducible rfl) ?_
    simp only [Act.put, List.setIfInBounds_toArray, List.set_cons_zero, List.set_cons_succ]
    refine take_atH 1 26 hS rfl rfl (by kernel_rfl) (by kernel_rfl) (by kernel_rfl) (fun _ _ _ h => h) rfl (fun wq hq => by go_simp; first | done | with_reducible rfl) ?_
    simp only [Act.put, List.setIfInBounds_toArray, List.set_cons_zero, List.set_cons_succ]
    refine take_atH 2 27 hS rfl rfl (by kernel_rfl) (by kernel_rfl) (by kernel_rfl) (fun _ _ _ h => h) rfl (fun wq hq => by go_simp; first | done | with_reducible rfl) ?_
    simp only [Act.put, List.setIfInBounds_toArray, List.set_cons_zero, List.set_cons_succ]
    refine take_atH 3 28 hS rfl rfl (by kernel_rfl) (by kernel_rfl) (by kernel_rfl) (fun _ _ _ h => h) rfl (fun wq hq => by go_simp; first | done | with_reducible rfl) ?_
    simp only [Act.put, List.setIfInBounds_toArray, List.set_cons_zero, List.set_cons_succ]
    refine take_atH 4 29 hS rfl rfl (by kernel_rfl) (by kernel_rfl) (by kernel_rfl) (fun _ _ _ h => h) rfl (fun wq hq => by go_simp; first | done | with_reducible rfl) ?_
    simp only [Act.put, List.setIfInBounds_toArray, List.set_cons_zero, List.set_cons_succ]
    refine take_atH 5 30 hS rfl rfl (by kernel_rfl) (by kernel_rfl) (by kernel_rfl) (fun _ _ _ h => h) rfl (fun wq hq => by obtain ⟨X, hq⟩ := hq; obtain ⟨vq, hbq, _⟩ := hq.row; obtain ⟨q0, q1, _⟩ := cells7 hbq; go_simp; first | done | with_reducible rfl) ?_
    simp only [Act.put, List.setIfInBounds_toArray, List.set_cons_zero, List.set_cons_succ]
    refine take_atH 6 31 hS rfl rfl (by kernel_rfl) (by kernel_rfl) (by kernel_rfl) (fun _ _ _ h => h) rfl (fun wq hq => by go_simp; first | done | with_reducible rfl) ?_
    simp only [Act.put, List.setIfInBounds_toArray, List.set_cons_zero, List.set_cons_succ]
    refine take_atH 7 32 hS rfl rfl (by kernel_rfl) (by kernel_rfl) (by kernel_rfl) (fun _ _ _ h => h) rfl (fun wq hq => by go_simp; first | done | with_reducible rfl) ?_
    simp only [Act.put, List.setIfInBounds_toArray, List.set_cons_zero, List.set_cons_succ]
    refine take_atH 8 33 hS rfl rfl (by kernel_rfl) (by kernel_rfl) (by kernel_rfl) (fun _ _ _ h => h) rfl (fun wq hq => by go_simp; first | done | with_reducible rfl) ?_
    simp only [Act.put, List.setIfInBounds_toArray, List.set_cons_zero, List.set_cons_succ]
    refine take_atH 9 34 hS rfl rfl (by kernel_rfl) (by kernel_rfl) (by kernel_rfl) (fun _ _ _ h => h) rfl (fun wq hq => by obtain ⟨X, hq⟩ := hq; obtain ⟨vq, hbq, _⟩ := hq.row; obtain ⟨q0, q1, _⟩ := cells7 hbq; go_simp; first | done | with_reducible rfl) ?_
    simp only [Act.put, List.setIfInBounds_toArray, List.set_cons_zero, List.set_cons_succ]
    refine lone_atH 10 rfl (by kernel_rfl) rfl (fun K hK => ?_)
    go_simp
    refine (Bs.bdecode_any _ _ _ _ (HO.out _ K1.below) (HF.out _ K1.below) hsz).mono ?_; rintro e w5 ⟨rfl, b5⟩; rw [hE]; have D5 := D1.below b5; have K5 := K1.trans (Keeps.ofBelow hB1 b5); have Z5 : FrBlk w5 w.heap.size 0 false 0 false 0 0 ⟨#[]⟩ := (b5.block _ hlt1).trans Z1
    refine (fun hN1 => hK _ _ hN1 ?_) (⟨_, D5⟩); clear hK K
    refine take_atH 11 36 hN1 rfl rfl (by kernel_rfl) (by kernel_rfl) (by kernel_rfl) (fun _ _ _ h => h) rfl (fun wq hq => by go_simp; first | done | with_reducible rfl) ?_
    simp only [Act.put, List.setIfInBounds_toArray, List.set_cons_zero, List.set_cons_succ]
    refine take_atH 12 37 hN1 rfl rfl (by kernel_rfl) (by kernel_rfl) (by kernel_rfl) (fun _ _ _ h => h) rfl (fun wq hq => by go_simp; first | done | with_reducible rfl) ?_
    simp only [Act.put, List.setIfInBounds_toArray, List.set_cons_zero, List.set_cons_succ]
    refine lone_atH 13 rfl (by kernel_rfl) rfl (fun K hK => ?_)
    go_simp
    refine (told_no false ini n1 B gd _ e0 w5 D5 hx he0).mono ?_; rintro e w6 ⟨rfl, D6, k6⟩; have K6 := K5.trans k6; have Z6 := k6.blk Z5 (by omega); obtain ⟨z0, z1, z2, z3, z4, z5, z6, y0, y1, y2, y3, y4, y5, y6⟩ := zero_cells Z6; unfold Fr.v frV zf
    refine (fun hN2 => hK _ _ hN2 ?_) (⟨_, D6⟩); clear hK K
    refine take_atH 14 39 hN2 rfl rfl (by kernel_rfl) (by kernel_rfl) (by kernel_rfl) (fun _ _ _ h => h) rfl (fun wq hq => by go_simp; first | done | with_reducible rfl) ?_
    simp only [Act.put, List.setIfInBounds_toArray, List.set_cons_zero, List.set_cons_succ]
    refine take_atH 15 40 hN2 rfl rfl (by kernel_rfl) (by kernel_rfl) (by kernel_rfl) (fun _ _ _ h => h) rfl (fun wq hq => by go_simp; first | done | with_reducible rfl) ?_
    simp only [Act.put, List.setIfInBounds_toArray, List.set_cons_zero, List.set_cons_succ]
    refine lone_atH 16 rfl (by kernel_rfl) rfl (fun K hK => ?_)
    go_simp
    refine (fun hN3 => hK _ _ hN3 ?_) (⟨_, D6.set7 Z6 (Nat.ne_of_lt hlt) _ _ _ _ _ _ _⟩); clear hK K
    refine take_atH 17 5 hN3 rfl rfl (by kernel_rfl) (by kernel_rfl) (by kernel_rfl) (fun _ _ _ h => h) rfl (fun wq hq => by go_simp; first | done | with_reducible rfl) ?_
    simp only [Act.put, List.setIfInBounds_toArray, List.set_cons_zero, List.set_cons_succ]
    refine wpAnyH_done (by kernel_rfl) ?_ _
    go_wp2
    exact ret_frame45 (frBlk_set7 Z6 0 false 0 false 0 0 ⟨#[]⟩) rfl rfl ⟨rfl, D6.set7 Z6 (Nat.ne_of_lt hlt) _ _ _ _ _ _ _, K6.set7 hB (Nat.le_refl _) _ _ _ _ _ _ _⟩
end Go.Proofs.YtnnimkailajgaaaDoor
