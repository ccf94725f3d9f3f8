/- The walk of chapter 21's law GateApart: it answers true. -/
import Derived.Test.YtnacjcgnkepacaaGateOpen
namespace Go.Proofs.Ytnacjcgnkepacaa
open Go.RowKit
set_option linter.unusedVariables false
set_option linter.unusedSimpArgs false

theorem gmay_zero (S : Nat) (C : Bool) : gmay S C 0 = true := by simp [gmay]
theorem gmay_closed (S d : Nat) : gmay S true d = ((d : Int) == 0) := by
  simp only [gmay, Bool.not_true, Bool.false_and, Bool.or_false]
  rw [Bool.eq_iff_iff, beq_iff_eq, beq_iff_eq]; omega
theorem gmay_own (S T d : Nat) (C y : Bool) (h : ∀ C, gmay S C d = gmay T C d) : gmay (gset S d y) C d = gmay (gset T d y) C d := by
  have h1 := h C
  unfold gmay at h1 ⊢
  by_cases h0 : d = 0
  · subst h0; simp
  · by_cases h6 : d ≤ 63
    · rw [gset_test S d d y (by omega), gset_test T d d y (by omega), if_pos (by omega), if_pos (by omega)]
    · simp [h6]
theorem gmay_other (S d x : Nat) (C y : Bool) (hne : d ≠ x) : gmay (gset S d y) C x = gmay S C x := by
  unfold gmay
  by_cases h6 : x ≤ 63
  · rw [gset_test S d x y (by omega), if_neg (by omega)]
  · simp [h6]

/-- Two gates lie there, and let the channel through alike. -/
structure Apart (bg bo x S T : Nat) (C : Bool) (w : World) : Prop where
  g : GateAt w bg S C
  o : GateAt w bo T C
  same : ∀ C, gmay S C x = gmay T C x
theorem Apart.below {bg bo x S T : Nat} {C : Bool} {w w' : World} (h : Apart bg bo x S T C w) (hb : Below w.heap.size w w') : Apart bg bo x S T C w' := ⟨h.g.below hb, h.o.below hb, h.same⟩

theorem apart_all {bg bo x S T : Nat} {C y : Bool} {w w1 w2 : World} (h : Apart bg bo x S T C w) (hne : bg ≠ bo) (g1 : GateAt w1 bg S (!y)) (g2 : w.grownBy w1 (some bg))
    (r1 : GateAt w2 bo T (!y)) (r2 : w1.grownBy w2 (some bo)) : Apart bg bo x S T (!y) w2 := ⟨g1.other r2 hne, r1, h.same⟩
theorem apart_stop {bg bo x S T : Nat} {C y : Bool} {w w1 w2 : World} (h : Apart bg bo x S T C w) (hne : bg ≠ bo) (g1 : GateAt w1 bg (gset S x y) C) (g2 : w.grownBy w1 (some bg))
    (r1 : GateAt w2 bo (gset T x y) C) (r2 : w1.grownBy w2 (some bo)) : Apart bg bo x (gset S x y) (gset T x y) C w2 := ⟨g1.other r2 hne, r1, fun C => gmay_own S T x C y h.same⟩
theorem apart_other {bg bo x d S T : Nat} {C y : Bool} {w w1 : World} (h : Apart bg bo x S T C w) (hne : bo ≠ bg) (hd : d ≠ x) (g1 : GateAt w1 bg (gset S d y) C) (g2 : w.grownBy w1 (some bg)) :
    Apart bg bo x (gset S d y) T C w1 := ⟨g1, h.o.other g2 hne, fun C => by rw [gmay_other S d x C y hd]; exact h.same C⟩

theorem ap_g {bg bo x S T : Nat} {C : Bool} {w : World} (h : Apart bg bo x S T C w) (hx : x ≤ 255) :
    Calls Try.prog 11 #[.pointer (some ⟨bg, 0, none⟩), .int .u8 (x : Int)] w fun e w' => e = .returned (.bool (gmay S C x)) ∧ Still w w' := gmay_still bg S x C w h.g hx
theorem ap_o {bg bo x S T : Nat} {C : Bool} {w : World} (h : Apart bg bo x S T C w) (hx : x ≤ 255) :
    Calls Try.prog 11 #[.pointer (some ⟨bo, 0, none⟩), .int .u8 (x : Int)] w fun e w' => e = .returned (.bool (gmay S C x)) ∧ Still w w' := by
  rw [h.same C]; exact gmay_still bo T x C w h.o hx
theorem ap_0 {bg bo x S T : Nat} {C : Bool} {w : World} (h : Apart bg bo x S T C w) :
    Calls Try.prog 11 #[.pointer (some ⟨bg, 0, none⟩), .int .u8 0] w fun e w' => e = .returned (.bool true) ∧ Still w w' := by
  have := gmay_still bg S 0 C w h.g (by omega)
  rw [gmay_zero] at this; exact this

set_option maxHeartbeats 4000000 in
set_option maxRecDepth 100000 in
theorem gateApart_any (a : Option Addr) (n c : Nat) (cs : List (Bool × Nat × Bool)) (d : Int) (w : World) (hc : CallsAt w a n cs) (hn : n ≤ 9223372036854775807) (h1 : 0 ≤ d) (h2 : d ≤ 255) :
    Calls Try.prog 4 #[.slice a n c, .int .u8 d] w fun e w' => e = .returned (.bool true) ∧ Below w.heap.size w w' := by
  obtain ⟨x, rfl⟩ := Int.eq_ofNat_of_zero_le h1
  by_cases hl : 100 < n
  · go_enter Try.func4, Try.ntmps4
    go_wp2_with fail
    refine (works_any _).mono ?_
    rintro e w2 ⟨rfl, hb⟩
    go_wp2
    go_ret
    exact ⟨rfl, hb⟩
  · go_enter Try.func4, Try.ntmps4
    go_wp2_with fail
    refine (gnew_any _).mono ?_
    rintro e w1 ⟨rfl, hw1⟩
    have hg1 := gate_new w
    rw [← hw1] at hg1
    have hb1 : Below w.heap.size w w1 := by rw [hw1]; exact (Below.refl _ _).alloc (Nat.le_refl _) _
    have hz1 : w1.heap.size = w.heap.size + 1 := by rw [hw1]; simp
    clear hw1
    have hzl : w.heap.size < w1.heap.size := by omega
    have hzn : w.heap.size ≠ w1.heap.size := by omega
    have HZN := hide (And.intro hzn hzn.symm)
    have HGG := hide (show ∀ j, some w.heap.size = some j → w.heap.size ≤ j from fun j hj => by simp at hj; omega)
    clear hz1 hzn
    go_wp2_with fail
    refine (gnew_any _).mono ?_
    rintro e w2 ⟨rfl, hw2⟩
    have ho1 := gate_new w1
    rw [← hw2] at ho1
    have hgg : GateAt w2 w.heap.size 0 false := by rw [hw2]; exact hg1.below ((Below.refl _ _).alloc (Nat.le_refl _) _)
    have hb2 : Below w.heap.size w w2 := by rw [hw2]; exact hb1.alloc hb1.size _
    have hz2 : w1.heap.size + 1 ≤ w2.heap.size := by rw [hw2]; simp
    clear hw2
    have hA0 : Apart w.heap.size w1.heap.size x 0 0 false w2 := ⟨hgg, ho1, fun _ => rfl⟩
    clear hg1 ho1 hgg hb1
    go_wp2_with fail
    go_loopw [7] (fun i wr => ∃ (k S T : Nat) (C : Bool), k ≤ n ∧ i = .int .i64 k ∧ Apart w.heap.size w1.heap.size x S T C wr ∧ Below w.heap.size w wr ∧ w1.heap.size + 1 ≤ wr.heap.size) (fun i _ => n - (intOf i).toNat)
    case atStart => exact ⟨0, 0, 0, false, by omega, rfl, hA0, hb2, hz2⟩
    case round =>
      clear hA0 hb2 hz2
      obtain ⟨k, S, T, C, hk, rfl, hp, hb, hz⟩ := hrel
      by_cases hlt : k < n
      · obtain ⟨hcl, hcb, hcc⟩ := hc
        obtain ⟨bl, ol, rfl, hblt, hcells⟩ := hcc (by omega)
        obtain ⟨q1, q2, q3⟩ := hcells k (by omega)
        have hd255 := hcb cs[k] (List.getElem_mem (by omega))
        generalize cs[k] = ck at q1 q2 q3 hd255
        obtain ⟨all, dk, yk⟩ := ck
        dsimp only at q1 q2 q3 hd255
        clear hcb hcc hcells hcl
        have hblr : bl < wr.heap.size := Nat.lt_of_lt_of_le hblt hb.size
        have hca : CellAt bl (ol + k * 3) all dk yk wr := ⟨(hb.cell (p := ⟨bl, ol + k * 3, none⟩) hblt).trans q1, (hb.cell (p := ⟨bl, ol + k * 3 + 1, none⟩) hblt).trans q2, (hb.cell (p := ⟨bl, ol + k * 3 + 2, none⟩) hblt).trans q3, hblr⟩
        have HL5 := hide (show bl ≠ w.heap.size ∧ bl ≠ w1.heap.size ∧ (∀ j, some w.heap.size = some j → w.heap.size ≤ j) ∧ (∀ j, some w1.heap.size = some j → w.heap.size ≤ j) by
          refine ⟨by omega, by omega, fun j hj => by simp at hj; omega, fun j hj => by simp at hj; omega⟩)
        clear q1 q2 q3 hblt hblr
        have ha := hca.c0
        cases all with
        | true =>
          have hy := hca.c2
          go_wp2_with fail
          refine (gall_any w.heap.size S C yk _ hp.g).mono ?_
          rintro e w3 ⟨rfl, g1, g2⟩
          have hy3 := (hca.other g2 HL5.out.1).c2
          go_wp2_with fail
          refine (gall_any w1.heap.size T C yk _ (hp.o.other g2 HZN.out.2)).mono ?_
          rintro e w4 ⟨rfl, r1, r2⟩
          have hpE := apart_all hp HZN.out.1 g1 g2 r1 r2
          have hzE : w1.heap.size + 1 ≤ w4.heap.size := Nat.le_trans (Nat.le_trans hz g2.size) r2.size
          have hbE : Below w.heap.size w w4 := (hb.grown g2 hb.size HL5.out.2.2.1).grown r2 (Nat.le_trans hb.size g2.size) HL5.out.2.2.2
          clear hp hb hz g1 g2 r1 r2 hy hy3 ha
          go_wp2_with fail
          refine (ap_g hpE (by omega)).mono ?_
          rintro e w5 ⟨rfl, hs5⟩
          replace hpE := hpE.below hs5.below
          replace hbE := Below.still hbE hs5
          replace hzE := Nat.le_trans hzE hs5.below.size
          clear hs5
          go_wp2_with fail
          refine (ap_o hpE (by omega)).mono ?_
          rintro e w6 ⟨rfl, hs6⟩
          replace hpE := hpE.below hs6.below
          replace hbE := Below.still hbE hs6
          replace hzE := Nat.le_trans hzE hs6.below.size
          clear hs6
          go_wp2_with fail
          refine (ap_0 hpE).mono ?_
          rintro e w7 ⟨rfl, hs7⟩
          replace hpE := hpE.below hs7.below
          replace hbE := Below.still hbE hs7
          replace hzE := Nat.le_trans hzE hs7.below.size
          clear hs7
          go_wp2
          go_roundw
          case rel => exact ⟨k + 1, _, _, _, by omega, by go_num, hpE, hbE, hzE⟩
          case measure => simp [intOf]; omega
        | false =>
          have hk1 := hca.c1
          by_cases hdx : dk = x
          · subst hdx
            have hy := hca.c2
            go_wp2_with fail
            refine (gstop_any w.heap.size S dk C yk _ hp.g hd255).mono ?_
            rintro e w3 ⟨rfl, g1, g2⟩
            have hy3 := (hca.other g2 HL5.out.1).c2
            go_wp2_with fail
            refine (gstop_any w1.heap.size T dk C yk _ (hp.o.other g2 HZN.out.2) hd255).mono ?_
            rintro e w4 ⟨rfl, r1, r2⟩
            have hpE := apart_stop hp HZN.out.1 g1 g2 r1 r2
            have hzE : w1.heap.size + 1 ≤ w4.heap.size := Nat.le_trans (Nat.le_trans hz g2.size) r2.size
            have hbE : Below w.heap.size w w4 := (hb.grown g2 hb.size HL5.out.2.2.1).grown r2 (Nat.le_trans hb.size g2.size) HL5.out.2.2.2
            clear hp hb hz g1 g2 r1 r2 hy hy3 ha hk1
            go_wp2_with fail
            refine (ap_g hpE (by omega)).mono ?_
            rintro e w5 ⟨rfl, hs5⟩
            replace hpE := hpE.below hs5.below
            replace hbE := Below.still hbE hs5
            replace hzE := Nat.le_trans hzE hs5.below.size
            clear hs5
            go_wp2_with fail
            refine (ap_o hpE (by omega)).mono ?_
            rintro e w6 ⟨rfl, hs6⟩
            replace hpE := hpE.below hs6.below
            replace hbE := Below.still hbE hs6
            replace hzE := Nat.le_trans hzE hs6.below.size
            clear hs6
            go_wp2_with fail
            refine (ap_0 hpE).mono ?_
            rintro e w7 ⟨rfl, hs7⟩
            replace hpE := hpE.below hs7.below
            replace hbE := Below.still hbE hs7
            replace hzE := Nat.le_trans hzE hs7.below.size
            clear hs7
            go_wp2
            go_roundw
            case rel => exact ⟨k + 1, _, _, _, by omega, by go_num, hpE, hbE, hzE⟩
            case measure => simp [intOf]; omega
          · have hdx2 : ((dk : Int) == (x : Int)) = false := by rw [beq_eq_false_iff_ne]; omega
            go_wp2_with fail
            clear ha hk1
            have hcd := hca.below ((Below.refl _ _).drew)
            refine wp_region_held (S := CellAt bl (ol + k * 3) false dk yk) (by kernel_rfl) ?_
            change wpAnyH _ _ _ _ _ _ _ _ (World.drew _)
            refine take_atH 0 21 hcd rfl rfl (by kernel_rfl) (by kernel_rfl) (by kernel_rfl) (fun _ _ _ h => h) rfl (fun wq hq => by go_simp; first | done | with_reducible rfl) ?_
            simp only [Act.put, List.setIfInBounds_toArray, List.set_cons_zero, List.set_cons_succ]
            refine take_atH 1 22 hcd rfl rfl (by kernel_rfl) (by kernel_rfl) (by kernel_rfl) (fun _ _ _ h => h) rfl (fun wq hq => by go_simp; first | done | with_reducible rfl) ?_
            simp only [Act.put, List.setIfInBounds_toArray, List.set_cons_zero, List.set_cons_succ]
            refine take_atH 2 23 hcd rfl rfl (by kernel_rfl) (by kernel_rfl) (by kernel_rfl) (fun _ _ _ h => h) rfl (fun wq hq => by go_simp; first | done | with_reducible rfl) ?_
            simp only [Act.put, List.setIfInBounds_toArray, List.set_cons_zero, List.set_cons_succ]
            refine take_atH 3 24 hcd rfl rfl (by kernel_rfl) (by kernel_rfl) (by kernel_rfl) (fun _ _ _ h => h) rfl (fun wq hq => by go_simp; first | done | with_reducible rfl) ?_
            simp only [Act.put, List.setIfInBounds_toArray, List.set_cons_zero, List.set_cons_succ]
            refine take_atH 4 25 hcd rfl rfl (by kernel_rfl) (by kernel_rfl) (by kernel_rfl) (fun _ _ _ h => h) rfl (fun wq hq => by go_simp; first | done | with_reducible rfl) ?_
            simp only [Act.put, List.setIfInBounds_toArray, List.set_cons_zero, List.set_cons_succ]
            refine take_atH 5 26 hcd rfl rfl (by kernel_rfl) (by kernel_rfl) (by kernel_rfl) (fun _ _ _ h => h) rfl (fun wq hq => by have hc1 := hq.c1; have hc2 := hq.c2; go_simp; first | done | with_reducible rfl) ?_
            simp only [Act.put, List.setIfInBounds_toArray, List.set_cons_zero, List.set_cons_succ]
            refine take_atH 6 27 hcd rfl rfl (by kernel_rfl) (by kernel_rfl) (by kernel_rfl) (fun _ _ _ h => h) rfl (fun wq hq => by go_simp; first | done | with_reducible rfl) ?_
            simp only [Act.put, List.setIfInBounds_toArray, List.set_cons_zero, List.set_cons_succ]
            refine take_atH 7 28 hcd rfl rfl (by kernel_rfl) (by kernel_rfl) (by kernel_rfl) (fun _ _ _ h => h) rfl (fun wq hq => by go_simp; first | done | with_reducible rfl) ?_
            simp only [Act.put, List.setIfInBounds_toArray, List.set_cons_zero, List.set_cons_succ]
            refine take_atH 8 29 hcd rfl rfl (by kernel_rfl) (by kernel_rfl) (by kernel_rfl) (fun _ _ _ h => h) rfl (fun wq hq => by go_simp; first | done | with_reducible rfl) ?_
            simp only [Act.put, List.setIfInBounds_toArray, List.set_cons_zero, List.set_cons_succ]
            refine take_atH 9 30 hcd rfl rfl (by kernel_rfl) (by kernel_rfl) (by kernel_rfl) (fun _ _ _ h => h) rfl (fun wq hq => by go_simp; first | done | with_reducible rfl) ?_
            simp only [Act.put, List.setIfInBounds_toArray, List.set_cons_zero, List.set_cons_succ]
            refine take_atH 10 31 hcd rfl rfl (by kernel_rfl) (by kernel_rfl) (by kernel_rfl) (fun _ _ _ h => h) rfl (fun wq hq => by have hc1 := hq.c1; have hc2 := hq.c2; go_simp; first | done | with_reducible rfl) ?_
            simp only [Act.put, List.setIfInBounds_toArray, List.set_cons_zero, List.set_cons_succ]
            refine lone_atH 11 rfl (by kernel_rfl) rfl (fun K hK => ?_)
            go_simp
            refine (gstop_any w.heap.size S dk C yk _ (hp.g.below ((Below.refl _ _).drew)) hd255).mono ?_; rintro e w3 ⟨rfl, g1, g2⟩; have hT1 := hcd.other g2 HL5.out.1
            refine hK _ _ hT1 ?_; clear hK K
            refine wpAnyH_done (by kernel_rfl) ?_ _
            have hpE := apart_other (hp.below ((Below.refl _ _).drew)) HZN.out.2 hdx g1 g2
            have hzE : w1.heap.size + 1 ≤ w3.heap.size := Nat.le_trans hz g2.size
            have hbE : Below w.heap.size w w3 := hb.drew.grown g2 hb.drew.size HL5.out.2.2.1
            clear hp hb hz g1 g2 hT1 hcd hca
            go_wp2_with fail
            refine (ap_g hpE (by omega)).mono ?_
            rintro e w5 ⟨rfl, hs5⟩
            replace hpE := hpE.below hs5.below
            replace hbE := Below.still hbE hs5
            replace hzE := Nat.le_trans hzE hs5.below.size
            clear hs5
            go_wp2_with fail
            refine (ap_o hpE (by omega)).mono ?_
            rintro e w6 ⟨rfl, hs6⟩
            replace hpE := hpE.below hs6.below
            replace hbE := Below.still hbE hs6
            replace hzE := Nat.le_trans hzE hs6.below.size
            clear hs6
            go_wp2_with fail
            refine (ap_0 hpE).mono ?_
            rintro e w7 ⟨rfl, hs7⟩
            replace hpE := hpE.below hs7.below
            replace hbE := Below.still hbE hs7
            replace hzE := Nat.le_trans hzE hs7.below.size
            clear hs7
            go_wp2
            go_roundw
            case rel => exact ⟨k + 1, _, _, _, by omega, by go_num, hpE, hbE, hzE⟩
            case measure => simp [intOf]; omega
      · obtain rfl : k = n := by omega
        go_wp2_with fail
        refine (gall_any w.heap.size S C true _ hp.g).mono ?_
        rintro e w3 ⟨rfl, g1, g2⟩
        have hb3 : Below w.heap.size w w3 := hb.grown g2 hb.size HGG.out
        clear hp hz g2
        go_wp2_with fail
        refine (gmay_still w.heap.size S x _ _ g1 (by omega)).mono ?_
        rintro e w4 ⟨rfl, hs4⟩
        replace g1 := g1.still hs4
        replace hb3 := Below.still hb3 hs4
        clear hs4
        go_wp2_with fail
        refine (gall_any w.heap.size S _ false _ g1).mono ?_
        rintro e w5 ⟨rfl, g3, g4⟩
        replace hb3 : Below w.heap.size w w5 := hb3.grown g4 hb3.size HGG.out
        clear g1 g4
        go_wp2_with fail
        refine (gmay_still w.heap.size S x _ _ g3 (by omega)).mono ?_
        rw [Bool.not_false, gmay_closed]
        rintro e w6 ⟨rfl, hs6⟩
        replace g3 := g3.still hs6
        replace hb3 := Below.still hb3 hs6
        clear hs6
        go_wp2_with fail
        refine (gopen_any w.heap.size S _ _ g3).mono ?_
        rintro e w' ⟨rfl, rfl⟩
        go_wp2_with fail
        refine (gall_any w.heap.size S _ true _ g3).mono ?_
        rintro e w7 ⟨rfl, g5, g6⟩
        replace hb3 : Below w.heap.size w w7 := hb3.grown g6 hb3.size HGG.out
        clear g3 g6
        go_wp2_with fail
        refine (gmay_still w.heap.size S x _ _ g5 (by omega)).mono ?_
        rintro e w8 ⟨rfl, hs8⟩
        replace g5 := g5.still hs8
        replace hb3 := Below.still hb3 hs8
        clear hs8
        go_wp2_with fail
        refine (gopen_any w.heap.size S _ _ g5).mono ?_
        rintro e w' ⟨rfl, rfl⟩
        go_wp2_with fail
        refine (works_any _).mono ?_
        rintro e w9 ⟨rfl, hb9⟩
        go_wp2
        go_ret
        exact ⟨rfl, below_step hb3 (Nat.le_refl _) hb9⟩

end Go.Proofs.Ytnacjcgnkepacaa
