/- Chapter 6's examples: what they come to (the walk of 'works' is still to be written). -/
import Derived.Test.YtnnimkailajgaaaDoorDfFeedAll
namespace Go.Proofs.YtnnimkailajgaaaDoor
open Go.RowKit
set_option linter.unusedVariables false
set_option linter.unusedSimpArgs false

def sabm (d : Nat) : Fr := ⟨d, true, 1, true, 0, 0, ⟨#[]⟩⟩
theorem ex6a : feedS false true 31 ⟨0, [], 0⟩ (bl ⟨#[0, 249, 3, 63, 1, 28, 249]⟩) = (⟨1, [], 0⟩, [sabm 0], true) := by rfl
theorem ex6b : feedS false true 31 ⟨0, [], 0⟩ (bl ⟨#[249, 3, 63, 1, 28, 249, 7, 63, 1, 222, 249]⟩) = (⟨1, [], 0⟩, [sabm 0, sabm 1], true) := by rfl
theorem ex6c : feedS false true 31 ⟨0, [], 0⟩ (bl ⟨#[249, 3, 63, 1, 29, 249]⟩) = (⟨1, [], 1⟩, [], false) := by rfl
theorem ex6d : feedS false true 31 ⟨1, [], 1⟩ (bl ⟨#[249, 2, 3, 249]⟩) = (⟨1, [], 2⟩, [], false) := by rfl

theorem ok_fresh (adv : Bool) (n1 : Int) : DOk adv n1 ⟨0, [], 0⟩ := ⟨(by decide : (0 : Nat) ≤ 2), fun _ => rfl, fun h => by simp at h, by simp, bytes_nil, fun _ h => by simp at h⟩
theorem Fresh.below {adv ini : Bool} {n1 : Int} {gd : Nat} {a b : World} (h : Fresh adv ini n1 gd a) (k : Below a.heap.size a b) : Fresh adv ini n1 gd b := (k.block gd (Array.getElem?_eq_some_iff.1 h).1).trans h
theorem row_form {w : World} {B n : Nat} {v : Value} {xs : List Value} (h : w.ownsRow B 30 7 v n xs) : ∃ a c, v = .slice a n c := by
  rcases h.2 with ⟨rfl, h0⟩ | ⟨g, cap, cur, rfl, _⟩
  · exact ⟨none, 0, by rw [h0]⟩
  · exact ⟨_, _, rfl⟩
theorem row_some {w : World} {B n : Nat} {v : Value} {xs : List Value} (h : w.ownsRow B 30 7 v n xs) (hn : 0 < n) : ∃ g c, v = .slice (some ⟨g, 0, none⟩) n c ∧ B ≤ g ∧ g < w.heap.size ∧ ∀ j, j < n * 7 → w.cell? ⟨g, j, none⟩ = xs[j]? := by
  rcases h.2 with ⟨rfl, h0⟩ | ⟨g, cap, cur, rfl, h1, h3, h4⟩
  · omega
  · exact ⟨g, cap, rfl, h1, (Array.getElem?_eq_some_iff.1 h3).1, fun j hj => h.cellAt j hj⟩

/-- What the examples' frames and deframers come to. -/
structure WF (ga gb gc g1 g2 g3 : Nat) (W : World) : Prop where
  a : ∀ j, j < 7 → W.cell? ⟨g1, j, none⟩ = (frC (sabm 0))[j]?
  b : ∀ j, j < 14 → W.cell? ⟨g2, j, none⟩ = (frs [sabm 0, sabm 1])[j]?
  c : FrBlk W g3 0 true 1 true 0 0 ⟨#[]⟩
  d : ∃ v n, W.heap[ga]? = some (dfr false true 31 v 0 n ga)
  e : ∃ v n, W.heap[gb]? = some (dfr false true 31 v 0 n gb)
  f : ∃ v n, W.heap[gc]? = some (dfr false true 31 v 2 n gc)
theorem WF.cells {ga gb gc g1 g2 g3 : Nat} {W : World} (h : WF ga gb gc g1 g2 g3 W) :
    W.cell? ⟨g1, 0, none⟩ = some (.int .u8 0) ∧ W.cell? ⟨g1, 1, none⟩ = some (.bool true) ∧ W.cell? ⟨g1, 2, none⟩ = some (.int .u8 1) ∧ W.cell? ⟨g1, 3, none⟩ = some (.bool true) ∧ W.cell? ⟨g1, 4, none⟩ = some (.int .u8 0) ∧ W.cell? ⟨g1, 5, none⟩ = some (.int .u8 0) ∧ W.cell? ⟨g1, 6, none⟩ = some (.string ⟨#[]⟩) ∧
    W.cell? ⟨g2, 0, none⟩ = some (.int .u8 0) ∧ W.cell? ⟨g2, 1, none⟩ = some (.bool true) ∧ W.cell? ⟨g2, 2, none⟩ = some (.int .u8 1) ∧ W.cell? ⟨g2, 3, none⟩ = some (.bool true) ∧ W.cell? ⟨g2, 4, none⟩ = some (.int .u8 0) ∧ W.cell? ⟨g2, 5, none⟩ = some (.int .u8 0) ∧ W.cell? ⟨g2, 6, none⟩ = some (.string ⟨#[]⟩) ∧
    W.cell? ⟨g3, 0, none⟩ = some (.int .u8 0) ∧ W.cell? ⟨g3, 1, none⟩ = some (.bool true) ∧ W.cell? ⟨g3, 2, none⟩ = some (.int .u8 1) ∧ W.cell? ⟨g3, 3, none⟩ = some (.bool true) ∧ W.cell? ⟨g3, 4, none⟩ = some (.int .u8 0) ∧ W.cell? ⟨g3, 5, none⟩ = some (.int .u8 0) ∧ W.cell? ⟨g3, 6, none⟩ = some (.string ⟨#[]⟩) := by
  obtain ⟨z0, z1, z2, z3, z4, z5, z6, _⟩ := zero_cells h.c
  exact ⟨h.a 0 (by decide), h.a 1 (by decide), h.a 2 (by decide), h.a 3 (by decide), h.a 4 (by decide), h.a 5 (by decide), h.a 6 (by decide), h.b 0 (by decide), h.b 1 (by decide), h.b 2 (by decide), h.b 3 (by decide), h.b 4 (by decide), h.b 5 (by decide), h.b 6 (by decide), z0, z1, z2, z3, z4, z5, z6⟩
theorem cell_set_ne {w : World} {g b q j : Nat} {v : Value} (h : g ≠ b) : (w.setCell ⟨b, q, none⟩ v).cell? ⟨g, j, none⟩ = w.cell? ⟨g, j, none⟩ := by
  simp [World.cell?, World.setCell, Array.getElem?_modify, Ne.symm h]
theorem WF.later {ga gb gc g1 g2 g3 : Nat} {W : World} (h : WF ga gb gc g1 g2 g3 W) (hl : g2 < g3) :
    (W.setCell ⟨g3, 0, none⟩ (.int .u8 1)).cell? ⟨g2, 7, none⟩ = some (.int .u8 1) ∧ (W.setCell ⟨g3, 0, none⟩ (.int .u8 1)).cell? ⟨g2, 8, none⟩ = some (.bool true) ∧ (W.setCell ⟨g3, 0, none⟩ (.int .u8 1)).cell? ⟨g2, 9, none⟩ = some (.int .u8 1) ∧
    (W.setCell ⟨g3, 0, none⟩ (.int .u8 1)).cell? ⟨g2, 10, none⟩ = some (.bool true) ∧ (W.setCell ⟨g3, 0, none⟩ (.int .u8 1)).cell? ⟨g2, 11, none⟩ = some (.int .u8 0) ∧ (W.setCell ⟨g3, 0, none⟩ (.int .u8 1)).cell? ⟨g2, 12, none⟩ = some (.int .u8 0) ∧ (W.setCell ⟨g3, 0, none⟩ (.int .u8 1)).cell? ⟨g2, 13, none⟩ = some (.string ⟨#[]⟩) ∧
    (W.setCell ⟨g3, 0, none⟩ (.int .u8 1)).cell? ⟨g3, 0, none⟩ = some (.int .u8 1) ∧ (W.setCell ⟨g3, 0, none⟩ (.int .u8 1)).cell? ⟨g3, 1, none⟩ = some (.bool true) ∧ (W.setCell ⟨g3, 0, none⟩ (.int .u8 1)).cell? ⟨g3, 2, none⟩ = some (.int .u8 1) ∧ (W.setCell ⟨g3, 0, none⟩ (.int .u8 1)).cell? ⟨g3, 3, none⟩ = some (.bool true) ∧
    (W.setCell ⟨g3, 0, none⟩ (.int .u8 1)).cell? ⟨g3, 4, none⟩ = some (.int .u8 0) ∧ (W.setCell ⟨g3, 0, none⟩ (.int .u8 1)).cell? ⟨g3, 5, none⟩ = some (.int .u8 0) ∧ (W.setCell ⟨g3, 0, none⟩ (.int .u8 1)).cell? ⟨g3, 6, none⟩ = some (.string ⟨#[]⟩) := by
  have hz : FrBlk (W.setCell ⟨g3, 0, none⟩ (.int .u8 1)) g3 1 true 1 true 0 0 ⟨#[]⟩ := blk_set h.c 0 (.int .u8 1)
  obtain ⟨z0, z1, z2, z3, z4, z5, z6, _⟩ := zero_cells hz
  have hne : g2 ≠ g3 := Nat.ne_of_lt hl
  simp only [cell_set_ne hne]
  exact ⟨h.b 7 (by decide), h.b 8 (by decide), h.b 9 (by decide), h.b 10 (by decide), h.b 11 (by decide), h.b 12 (by decide), h.b 13 (by decide), z0, z1, z2, z3, z4, z5, z6⟩
theorem bad_lit {g bad n : Nat} {v : Value} {W : World} {z : Int} (h : W.heap[g]? = some (dfr false true 31 v bad n g)) (hz : (bad : Int) = z) :
    Calls Tryd.prog 10 #[.pointer (some ⟨g, 0, none⟩)] W fun e w' => e = .returned (.int .i64 z) ∧ W = w' := by
  rw [← hz]
  exact bad_of false true 31 g bad n v W h

set_option maxRecDepth 100000 in
set_option maxHeartbeats 4000000 in
theorem works_any (w : World) (hh : Octs w) (hf : Half w) :
    Calls Tryd.prog 6 #[] w fun e w' => e = .returned (.bool true) ∧ Below w.heap.size w w' := by
  have HO := hide (fun W (hb : Below w.heap.size w W) => hh.below hb)
  have HF := hide (fun W (hb : Below w.heap.size w W) => hf.below hb)
  clear hh hf
  go_enter Tryd.func6, Tryd.ntmps6
  go_wp2_with fail
  refine (new_any false true 31 w).mono ?_
  rintro e w1 ⟨rfl, fa, b1⟩
  have la := (Array.getElem?_eq_some_iff.1 fa).1
  go_wp2_with fail
  refine (new_any false true 31 w1).mono ?_
  rintro e w2 ⟨rfl, fb, b2⟩
  have lb := (Array.getElem?_eq_some_iff.1 fb).1
  replace fa := fa.below b2
  have B2 := below_step b1 (Nat.le_refl _) b2
  clear b1 b2
  go_wp2_with fail
  refine (new_any false true 31 w2).mono ?_
  rintro e w3 ⟨rfl, fc, b3⟩
  have lc := (Array.getElem?_eq_some_iff.1 fc).1
  replace fa := fa.below b3
  replace fb := fb.below b3
  have B3 := below_step B2 (Nat.le_refl _) b3
  clear b3 B2
  obtain ⟨ga, hga⟩ : ∃ ga, w.heap.size = ga := ⟨_, rfl⟩
  obtain ⟨gb, hgb⟩ : ∃ gb, w1.heap.size = gb := ⟨_, rfl⟩
  obtain ⟨gc, hgc⟩ : ∃ gc, w2.heap.size = gc := ⟨_, rfl⟩
  rw [hga] at la fa
  rw [hgb] at la lb fb
  rw [hgc] at lb lc fc
  have HGA := hide hga
  have HGB := hide hgb
  have HGC := hide hgc
  have da : DefAt false true 31 w.heap.size ga ⟨0, [], 0⟩ w3 := fa.at (by omega)
  clear hga hgb hgc
  have FA := feed_any false true 31 w.heap.size ga ⟨0, [], 0⟩ ⟨#[0, 249, 3, 63, 1, 28, 249]⟩ w3 (fun W hW => HO.out W (B3.trans hW)) (fun W hW => HF.out W (B3.trans hW)) da (ok_fresh _ _) (by decide)
  rw [ex6a] at FA
  have HFA := hide FA
  clear FA da fa
  rw [HGA.out, HGB.out, HGC.out]
  go_wp2_with fail
  refine HFA.out.mono ?_
  rintro e w4 ⟨va, rfl, hA⟩
  have KA := hA.keep
  have rA := hA.row
  have dA := hA.d
  rw [ex6a] at rA dA
  dsimp only at rA dA
  clear hA HFA
  have lcw3 : gc < w3.heap.size := lc
  have fb4 := fb.keep KA (by omega)
  have fc4 := fc.keep KA (by omega)
  obtain ⟨ua, hba, _⟩ := dA.row
  dsimp only at hba
  have B4 := B3.trans KA.below
  clear fb fc dA
  have HFB := hide (feed_any false true 31 w.heap.size gb ⟨0, [], 0⟩ ⟨#[249, 3, 63, 1, 28, 249, 7, 63, 1, 222, 249]⟩ w4 (fun W hW => HO.out W (B4.trans hW)) (fun W hW => HF.out W (B4.trans hW)) (fb4.at (by have := HGA.out; omega)) (ok_fresh _ _) (by decide))
  rw [ex6b] at HFB
  go_wp2_with fail
  refine HFB.out.mono ?_
  rintro e w5 ⟨vb, rfl, hB⟩
  have KB := hB.keep
  have rB := hB.row
  have dB := hB.d
  rw [ex6b] at rB dB
  dsimp only at rB dB
  clear hB HFB
  have fc5 := fc4.keep KB (by omega)
  have rA5 := KB.own rA (by omega)
  have hba5 := KB.keep ga _ _ _ hba (by omega) (by decide)
  obtain ⟨ub, hbb, _⟩ := dB.row
  dsimp only at hbb
  have B5 := B4.trans KB.below
  clear fb4 fc4 dB rA hba
  have HFC := hide (feed_any false true 31 w.heap.size gc ⟨0, [], 0⟩ ⟨#[249, 3, 63, 1, 29, 249]⟩ w5 (fun W hW => HO.out W (B5.trans hW)) (fun W hW => HF.out W (B5.trans hW)) (fc5.at (by have := HGA.out; omega)) (ok_fresh _ _) (by decide))
  rw [ex6c] at HFC
  go_wp2_with fail
  refine HFC.out.mono ?_
  rintro e w6 ⟨vc, rfl, hC⟩
  have KC := hC.keep
  have rC := hC.row
  have dC := hC.d
  rw [ex6c] at rC dC
  dsimp only at rC dC
  clear hC HFC
  have hs4 := KA.below.size
  have rA6 := KC.own rA5 (by omega)
  have rB6 := KC.own rB (by omega)
  have hba6 := KC.keep ga _ _ _ hba5 (by omega) (by decide)
  have hbb6 := KC.keep gb _ _ _ hbb (by omega) (by decide)
  have B6 := B5.trans KC.below
  clear rA5 rB hba5 hbb fc5
  have HFD := hide (feed_any false true 31 w.heap.size gc ⟨1, [], 1⟩ ⟨#[249, 2, 3, 249]⟩ w6 (fun W hW => HO.out W (B6.trans hW)) (fun W hW => HF.out W (B6.trans hW)) dC (ok_begin 1) (by decide))
  rw [ex6d] at HFD
  go_wp2_with fail
  refine HFD.out.mono ?_
  rintro e w7 ⟨vd, rfl, hD⟩
  have KD := hD.keep
  have rD := hD.row
  have dD := hD.d
  rw [ex6d] at rD dD
  dsimp only at rD dD
  clear hD HFD
  have rA7 := KD.own rA6 (by omega)
  have rB7 := KD.own rB6 (by omega)
  have hba7 := KD.keep ga _ _ _ hba6 (by omega) (by decide)
  have hbb7 := KD.keep gb _ _ _ hbb6 (by omega) (by decide)
  obtain ⟨uc, hbc, _⟩ := dD.row
  dsimp only at hbc
  have B7 := B6.trans KD.below
  have hs5 := KB.below.size
  have rC7 := KD.own rC (by omega)
  obtain ⟨ac, cc, rfl⟩ := row_form rC7
  obtain ⟨ad, cd, rfl⟩ := row_form rD
  obtain ⟨g1, c1, rfl, _, l1, q1⟩ := row_some rA7 (by decide)
  obtain ⟨g2, c2, rfl, _, l2, q2⟩ := row_some rB7 (by decide)
  have hS8 : WF ga gb gc g1 g2 w7.heap.size (w7.alloc (.cells #[.int .u8 0, .bool true, .int .u8 1, .bool true, .int .u8 0, .int .u8 0, .string ⟨#[]⟩] 30)) := by
    have h8 := (Below.refl w7.heap.size w7).alloc (Nat.le_refl _) (.cells #[.int .u8 0, .bool true, .int .u8 1, .bool true, .int .u8 0, .int .u8 0, .string ⟨#[]⟩] 30)
    refine ⟨fun j hj => (h8.cell (p := ⟨g1, j, none⟩) l1).trans (q1 j hj), fun j hj => (h8.cell (p := ⟨g2, j, none⟩) l2).trans (q2 j hj), World.alloc_heap_new w7 _, ⟨_, _, (h8.block ga (Array.getElem?_eq_some_iff.1 hba7).1).trans hba7⟩, ⟨_, _, (h8.block gb (Array.getElem?_eq_some_iff.1 hbb7).1).trans hbb7⟩, ⟨_, _, (h8.block gc (Array.getElem?_eq_some_iff.1 hbc).1).trans hbc⟩⟩
  have B8 := below_step B7 (Nat.le_refl _) ((Below.refl w7.heap.size w7).alloc (Nat.le_refl _) (.cells #[.int .u8 0, .bool true, .int .u8 1, .bool true, .int .u8 0, .int .u8 0, .string ⟨#[]⟩] 30))
  have hw7 : w.heap.size ≤ w7.heap.size := B7.size
  try clear HO
  try clear HF
  try clear HGA
  try clear HGB
  try clear HGC
  try clear la
  try clear lb
  try clear lc
  try clear lcw3
  try clear fb4
  try clear KA
  try clear KB
  try clear KC
  try clear KD
  try clear B3
  try clear B4
  try clear B5
  try clear B6
  try clear B7
  try clear hs4
  try clear hs5
  try clear rA6
  try clear rB6
  try clear rA7
  try clear rB7
  try clear rC
  try clear rC7
  try clear rD
  try clear hba6
  try clear hbb6
  try clear hba7
  try clear hbb7
  try clear hbc
  try clear q1
  try clear q2
  try clear dA
  try clear dB
  try clear dC
  try clear dD
  try clear HFB
  try clear HFC
  try clear HFD
  try clear l1
  go_upto_region 7 with (fail)
  generalize w7.alloc (.cells #[.int .u8 0, .bool true, .int .u8 1, .bool true, .int .u8 0, .int .u8 0, .string ⟨#[]⟩] 30) = w8 at *
  generalize w7.heap.size = g3 at *
  refine wp_region_held (S := fun W => WF ga gb gc g1 g2 g3 W) (by kernel_rfl) ?_
  change wpAnyH _ _ _ _ _ _ _ _ (World.drew _)
  have hS : WF ga gb gc g1 g2 g3 w8.drew := ⟨hS8.a, hS8.b, hS8.c, hS8.d, hS8.e, hS8.f⟩
  have B9 : Below w.heap.size w w8.drew := below_drewN B8 1
  clear hS8 B8
  generalize w8.drew = w9 at *
  refine take_atH 0 37 hS rfl rfl (by kernel_rfl) (by kernel_rfl) (by kernel_rfl) (fun _ _ _ h => h) rfl (fun wq hq => by go_simp; first | done | with_reducible rfl) ?_
  simp only [Act.put, List.setIfInBounds_toArray, List.set_cons_zero, List.set_cons_succ]
  refine take_atH 1 38 hS rfl rfl (by kernel_rfl) (by kernel_rfl) (by kernel_rfl) (fun _ _ _ h => h) rfl (fun wq hq => by go_simp; first | done | with_reducible rfl) ?_
  simp only [Act.put, List.setIfInBounds_toArray, List.set_cons_zero, List.set_cons_succ]
  refine take_atH 2 39 hS rfl rfl (by kernel_rfl) (by kernel_rfl) (by kernel_rfl) (fun _ _ _ h => h) rfl (fun wq hq => by go_simp; first | done | with_reducible rfl) ?_
  simp only [Act.put, List.setIfInBounds_toArray, List.set_cons_zero, List.set_cons_succ]
  refine take_atH 3 40 hS rfl rfl (by kernel_rfl) (by kernel_rfl) (by kernel_rfl) (fun _ _ _ h => h) rfl (fun wq hq => by go_simp; first | done | with_reducible rfl) ?_
  simp only [Act.put, List.setIfInBounds_toArray, List.set_cons_zero, List.set_cons_succ]
  refine take_atH 4 41 hS rfl rfl (by kernel_rfl) (by kernel_rfl) (by kernel_rfl) (fun _ _ _ h => h) rfl (fun wq hq => by go_simp; first | done | with_reducible rfl) ?_
  simp only [Act.put, List.setIfInBounds_toArray, List.set_cons_zero, List.set_cons_succ]
  refine take_atH 5 42 hS rfl rfl (by kernel_rfl) (by kernel_rfl) (by kernel_rfl) (fun _ _ _ h => h) rfl (fun wq hq => by go_simp; first | done | with_reducible rfl) ?_
  simp only [Act.put, List.setIfInBounds_toArray, List.set_cons_zero, List.set_cons_succ]
  refine take_atH 6 43 hS rfl rfl (by kernel_rfl) (by kernel_rfl) (by kernel_rfl) (fun _ _ _ h => h) rfl (fun wq hq => by obtain ⟨e0, e1, e2, e3, e4, e5, e6, f0, f1, f2, f3, f4, f5, f6, z0, z1, z2, z3, z4, z5, z6⟩ := hq.cells; go_simp; first | done | with_reducible rfl) ?_
  simp only [Act.put, List.setIfInBounds_toArray, List.set_cons_zero, List.set_cons_succ]
  refine take_atH 7 44 hS rfl rfl (by kernel_rfl) (by kernel_rfl) (by kernel_rfl) (fun _ _ _ h => h) rfl (fun wq hq => by obtain ⟨e0, e1, e2, e3, e4, e5, e6, f0, f1, f2, f3, f4, f5, f6, z0, z1, z2, z3, z4, z5, z6⟩ := hq.cells; go_simp; first | done | with_reducible rfl) ?_
  simp only [Act.put, List.setIfInBounds_toArray, List.set_cons_zero, List.set_cons_succ]
  refine take_atH 8 45 hS rfl rfl (by kernel_rfl) (by kernel_rfl) (by kernel_rfl) (fun _ _ _ h => h) rfl (fun wq hq => by go_simp; first | done | with_reducible rfl) ?_
  simp only [Act.put, List.setIfInBounds_toArray, List.set_cons_zero, List.set_cons_succ]
  refine take_atH 9 46 hS rfl rfl (by kernel_rfl) (by kernel_rfl) (by kernel_rfl) (fun _ _ _ h => h) rfl (fun wq hq => by go_simp; first | done | with_reducible rfl) ?_
  simp only [Act.put, List.setIfInBounds_toArray, List.set_cons_zero, List.set_cons_succ]
  refine take_atH 10 47 hS rfl rfl (by kernel_rfl) (by kernel_rfl) (by kernel_rfl) (fun _ _ _ h => h) rfl (fun wq hq => by go_simp; first | done | with_reducible rfl) ?_
  simp only [Act.put, List.setIfInBounds_toArray, List.set_cons_zero, List.set_cons_succ]
  refine take_atH 11 48 hS rfl rfl (by kernel_rfl) (by kernel_rfl) (by kernel_rfl) (fun _ _ _ h => h) rfl (fun wq hq => by go_simp; first | done | with_reducible rfl) ?_
  simp only [Act.put, List.setIfInBounds_toArray, List.set_cons_zero, List.set_cons_succ]
  refine take_atH 12 49 hS rfl rfl (by kernel_rfl) (by kernel_rfl) (by kernel_rfl) (fun _ _ _ h => h) rfl (fun wq hq => by go_simp; first | done | with_reducible rfl) ?_
  simp only [Act.put, List.setIfInBounds_toArray, List.set_cons_zero, List.set_cons_succ]
  refine take_atH 13 50 hS rfl rfl (by kernel_rfl) (by kernel_rfl) (by kernel_rfl) (fun _ _ _ h => h) rfl (fun wq hq => by go_simp; first | done | with_reducible rfl) ?_
  simp only [Act.put, List.setIfInBounds_toArray, List.set_cons_zero, List.set_cons_succ]
  refine take_atH 14 51 hS rfl rfl (by kernel_rfl) (by kernel_rfl) (by kernel_rfl) (fun _ _ _ h => h) rfl (fun wq hq => by go_simp; first | done | with_reducible rfl) ?_
  simp only [Act.put, List.setIfInBounds_toArray, List.set_cons_zero, List.set_cons_succ]
  refine take_atH 15 52 hS rfl rfl (by kernel_rfl) (by kernel_rfl) (by kernel_rfl) (fun _ _ _ h => h) rfl (fun wq hq => by go_simp; first | done | with_reducible rfl) ?_
  simp only [Act.put, List.setIfInBounds_toArray, List.set_cons_zero, List.set_cons_succ]
  refine take_atH 16 53 hS rfl rfl (by kernel_rfl) (by kernel_rfl) (by kernel_rfl) (fun _ _ _ h => h) rfl (fun wq hq => by go_simp; first | done | with_reducible rfl) ?_
  simp only [Act.put, List.setIfInBounds_toArray, List.set_cons_zero, List.set_cons_succ]
  refine take_atH 17 54 hS rfl rfl (by kernel_rfl) (by kernel_rfl) (by kernel_rfl) (fun _ _ _ h => h) rfl (fun wq hq => by go_simp; first | done | with_reducible rfl) ?_
  simp only [Act.put, List.setIfInBounds_toArray, List.set_cons_zero, List.set_cons_succ]
  refine take_atH 18 55 hS rfl rfl (by kernel_rfl) (by kernel_rfl) (by kernel_rfl) (fun _ _ _ h => h) rfl (fun wq hq => by obtain ⟨e0, e1, e2, e3, e4, e5, e6, f0, f1, f2, f3, f4, f5, f6, z0, z1, z2, z3, z4, z5, z6⟩ := hq.cells; go_simp; first | done | with_reducible rfl) ?_
  simp only [Act.put, List.setIfInBounds_toArray, List.set_cons_zero, List.set_cons_succ]
  refine take_atH 19 56 hS rfl rfl (by kernel_rfl) (by kernel_rfl) (by kernel_rfl) (fun _ _ _ h => h) rfl (fun wq hq => by obtain ⟨e0, e1, e2, e3, e4, e5, e6, f0, f1, f2, f3, f4, f5, f6, z0, z1, z2, z3, z4, z5, z6⟩ := hq.cells; go_simp; first | done | with_reducible rfl) ?_
  simp only [Act.put, List.setIfInBounds_toArray, List.set_cons_zero, List.set_cons_succ]
  refine take_atH 20 57 hS rfl rfl (by kernel_rfl) (by kernel_rfl) (by kernel_rfl) (fun _ _ _ h => h) rfl (fun wq hq => by go_simp; first | done | with_reducible rfl) ?_
  simp only [Act.put, List.setIfInBounds_toArray, List.set_cons_zero, List.set_cons_succ]
  refine take_atH 21 58 hS rfl rfl (by kernel_rfl) (by kernel_rfl) (by kernel_rfl) (fun _ _ _ h => h) rfl (fun wq hq => by go_simp; first | done | with_reducible rfl) ?_
  simp only [Act.put, List.setIfInBounds_toArray, List.set_cons_zero, List.set_cons_succ]
  refine take_atH 22 59 hS rfl rfl (by kernel_rfl) (by kernel_rfl) (by kernel_rfl) (fun _ _ _ h => h) rfl (fun wq hq => by go_simp; first | done | with_reducible rfl) ?_
  simp only [Act.put, List.setIfInBounds_toArray, List.set_cons_zero, List.set_cons_succ]
  refine take_atH 23 60 hS rfl rfl (by kernel_rfl) (by kernel_rfl) (by kernel_rfl) (fun _ _ _ h => h) rfl (fun wq hq => by go_simp; first | done | with_reducible rfl) ?_
  simp only [Act.put, List.setIfInBounds_toArray, List.set_cons_zero, List.set_cons_succ]
  refine take_atH 24 61 hS rfl rfl (by kernel_rfl) (by kernel_rfl) (by kernel_rfl) (fun _ _ _ h => h) rfl (fun wq hq => by go_simp; first | done | with_reducible rfl) ?_
  simp only [Act.put, List.setIfInBounds_toArray, List.set_cons_zero, List.set_cons_succ]
  refine take_atH 25 62 hS rfl rfl (by kernel_rfl) (by kernel_rfl) (by kernel_rfl) (fun _ _ _ h => h) rfl (fun wq hq => by go_simp; first | done | with_reducible rfl) ?_
  simp only [Act.put, List.setIfInBounds_toArray, List.set_cons_zero, List.set_cons_succ]
  refine take_atH 26 63 hS rfl rfl (by kernel_rfl) (by kernel_rfl) (by kernel_rfl) (fun _ _ _ h => h) rfl (fun wq hq => by go_simp; first | done | with_reducible rfl) ?_
  simp only [Act.put, List.setIfInBounds_toArray, List.set_cons_zero, List.set_cons_succ]
  refine take_atH 27 64 hS rfl rfl (by kernel_rfl) (by kernel_rfl) (by kernel_rfl) (fun _ _ _ h => h) rfl (fun wq hq => by go_simp; first | done | with_reducible rfl) ?_
  simp only [Act.put, List.setIfInBounds_toArray, List.set_cons_zero, List.set_cons_succ]
  refine take_atH 28 65 hS rfl rfl (by kernel_rfl) (by kernel_rfl) (by kernel_rfl) (fun _ _ _ h => h) rfl (fun wq hq => by go_simp; first | done | with_reducible rfl) ?_
  simp only [Act.put, List.setIfInBounds_toArray, List.set_cons_zero, List.set_cons_succ]
  refine take_atH 29 66 hS rfl rfl (by kernel_rfl) (by kernel_rfl) (by kernel_rfl) (fun _ _ _ h => h) rfl (fun wq hq => by go_simp; first | done | with_reducible rfl) ?_
  simp only [Act.put, List.setIfInBounds_toArray, List.set_cons_zero, List.set_cons_succ]
  refine take_atH 30 67 hS rfl rfl (by kernel_rfl) (by kernel_rfl) (by kernel_rfl) (fun _ _ _ h => h) rfl (fun wq hq => by go_simp; first | done | with_reducible rfl) ?_
  simp only [Act.put, List.setIfInBounds_toArray, List.set_cons_zero, List.set_cons_succ]
  refine take_atH 31 68 hS rfl rfl (by kernel_rfl) (by kernel_rfl) (by kernel_rfl) (fun _ _ _ h => h) rfl (fun wq hq => by go_simp; first | done | with_reducible rfl) ?_
  simp only [Act.put, List.setIfInBounds_toArray, List.set_cons_zero, List.set_cons_succ]
  refine take_atH 32 69 hS rfl rfl (by kernel_rfl) (by kernel_rfl) (by kernel_rfl) (fun _ _ _ h => h) rfl (fun wq hq => by go_simp; first | done | with_reducible rfl) ?_
  simp only [Act.put, List.setIfInBounds_toArray, List.set_cons_zero, List.set_cons_succ]
  refine take_atH 33 70 hS rfl rfl (by kernel_rfl) (by kernel_rfl) (by kernel_rfl) (fun _ _ _ h => h) rfl (fun wq hq => by go_simp; first | done | with_reducible rfl) ?_
  simp only [Act.put, List.setIfInBounds_toArray, List.set_cons_zero, List.set_cons_succ]
  refine take_atH 34 71 hS rfl rfl (by kernel_rfl) (by kernel_rfl) (by kernel_rfl) (fun _ _ _ h => h) rfl (fun wq hq => by go_simp; first | done | with_reducible rfl) ?_
  simp only [Act.put, List.setIfInBounds_toArray, List.set_cons_zero, List.set_cons_succ]
  refine take_atH 35 72 hS rfl rfl (by kernel_rfl) (by kernel_rfl) (by kernel_rfl) (fun _ _ _ h => h) rfl (fun wq hq => by go_simp; first | done | with_reducible rfl) ?_
  simp only [Act.put, List.setIfInBounds_toArray, List.set_cons_zero, List.set_cons_succ]
  refine take_atH 36 73 hS rfl rfl (by kernel_rfl) (by kernel_rfl) (by kernel_rfl) (fun _ _ _ h => h) rfl (fun wq hq => by go_simp; first | done | with_reducible rfl) ?_
  simp only [Act.put, List.setIfInBounds_toArray, List.set_cons_zero, List.set_cons_succ]
  refine take_atH 37 74 hS rfl rfl (by kernel_rfl) (by kernel_rfl) (by kernel_rfl) (fun _ _ _ h => h) rfl (fun wq hq => by go_simp; first | done | with_reducible rfl) ?_
  simp only [Act.put, List.setIfInBounds_toArray, List.set_cons_zero, List.set_cons_succ]
  refine lone_atH 38 rfl (by kernel_rfl) rfl (fun K hK => ?_)
  go_simp
  obtain ⟨va, na, hba⟩ := (hS).d; refine (bad_lit hba rfl).mono ?_; rintro e wN1 ⟨rfl, rfl⟩
  refine hK _ _ hS ?_; clear hK K
  refine take_atH 39 76 hS rfl rfl (by kernel_rfl) (by kernel_rfl) (by kernel_rfl) (fun _ _ _ h => h) rfl (fun wq hq => by go_simp; first | done | with_reducible rfl) ?_
  simp only [Act.put, List.setIfInBounds_toArray, List.set_cons_zero, List.set_cons_succ]
  refine take_atH 40 77 hS rfl rfl (by kernel_rfl) (by kernel_rfl) (by kernel_rfl) (fun _ _ _ h => h) rfl (fun wq hq => by go_simp; first | done | with_reducible rfl) ?_
  simp only [Act.put, List.setIfInBounds_toArray, List.set_cons_zero, List.set_cons_succ]
  refine take_atH 41 78 hS rfl rfl (by kernel_rfl) (by kernel_rfl) (by kernel_rfl) (fun _ _ _ h => h) rfl (fun wq hq => by go_simp; first | done | with_reducible rfl) ?_
  simp only [Act.put, List.setIfInBounds_toArray, List.set_cons_zero, List.set_cons_succ]
  refine take_atH 42 79 hS rfl rfl (by kernel_rfl) (by kernel_rfl) (by kernel_rfl) (fun _ _ _ h => h) rfl (fun wq hq => by go_simp; first | done | with_reducible rfl) ?_
  simp only [Act.put, List.setIfInBounds_toArray, List.set_cons_zero, List.set_cons_succ]
  refine lone_atH 43 rfl (by kernel_rfl) rfl (fun K hK => ?_)
  go_simp
  obtain ⟨vb, nb, hbb⟩ := (hS).e; refine (bad_lit hbb rfl).mono ?_; rintro e wN2 ⟨rfl, rfl⟩
  refine hK _ _ hS ?_; clear hK K
  refine take_atH 44 81 hS rfl rfl (by kernel_rfl) (by kernel_rfl) (by kernel_rfl) (fun _ _ _ h => h) rfl (fun wq hq => by go_simp; first | done | with_reducible rfl) ?_
  simp only [Act.put, List.setIfInBounds_toArray, List.set_cons_zero, List.set_cons_succ]
  refine take_atH 45 82 hS rfl rfl (by kernel_rfl) (by kernel_rfl) (by kernel_rfl) (fun _ _ _ h => h) rfl (fun wq hq => by go_simp; first | done | with_reducible rfl) ?_
  simp only [Act.put, List.setIfInBounds_toArray, List.set_cons_zero, List.set_cons_succ]
  refine take_atH 46 83 hS rfl rfl (by kernel_rfl) (by kernel_rfl) (by kernel_rfl) (fun _ _ _ h => h) rfl (fun wq hq => by go_simp; first | done | with_reducible rfl) ?_
  simp only [Act.put, List.setIfInBounds_toArray, List.set_cons_zero, List.set_cons_succ]
  refine take_atH 47 84 hS rfl rfl (by kernel_rfl) (by kernel_rfl) (by kernel_rfl) (fun _ _ _ h => h) rfl (fun wq hq => by go_simp; first | done | with_reducible rfl) ?_
  simp only [Act.put, List.setIfInBounds_toArray, List.set_cons_zero, List.set_cons_succ]
  refine lone_atH 48 rfl (by kernel_rfl) rfl (fun K hK => ?_)
  go_simp
  obtain ⟨vc, nc, hbc⟩ := (hS).f; refine (bad_lit hbc rfl).mono ?_; rintro e wN3 ⟨rfl, rfl⟩
  refine hK _ _ hS ?_; clear hK K
  refine take_atH 49 86 hS rfl rfl (by kernel_rfl) (by kernel_rfl) (by kernel_rfl) (fun _ _ _ h => h) rfl (fun wq hq => by go_simp; first | done | with_reducible rfl) ?_
  simp only [Act.put, List.setIfInBounds_toArray, List.set_cons_zero, List.set_cons_succ]
  refine take_atH 50 87 hS rfl rfl (by kernel_rfl) (by kernel_rfl) (by kernel_rfl) (fun _ _ _ h => h) rfl (fun wq hq => by go_simp; first | done | with_reducible rfl) ?_
  simp only [Act.put, List.setIfInBounds_toArray, List.set_cons_zero, List.set_cons_succ]
  refine wpAnyH_done (by kernel_rfl) ?_ _
  obtain ⟨e0, e1, e2, e3, e4, e5, e6, f0, f1, f2, f3, f4, f5, f6, z0, z1, z2, z3, z4, z5, z6⟩ := hS.cells
  obtain ⟨_, _, _, _, _, _, _, y0, y1, y2, y3, y4, y5, y6⟩ := zero_cells hS.c
  have hS' := hS.later l2
  clear e0 e1 e2 e3 e4 e5 e6 f0 f1 f2 f3 f4 f5 f6 hS
  go_upto_region 10 with (fail)
  have B10 := B9.setCell (p := ⟨g3, 0, none⟩) hw7 (.int .u8 1)
  generalize w9.setCell ⟨g3, 0, none⟩ (.int .u8 1) = w10 at *
  obtain ⟨f0, f1, f2, f3, f4, f5, f6, x0, x1, x2, x3, x4, x5, x6⟩ := hS'
  clear z0 z1 z2 z3 z4 z5 z6 y0 y1 y2 y3 y4 y5 y6 B9
  go_quiet (fail)
  go_wp2
  go_ret
  exact ⟨rfl, below_drewN B10 nq⟩
end Go.Proofs.YtnnimkailajgaaaDoor
