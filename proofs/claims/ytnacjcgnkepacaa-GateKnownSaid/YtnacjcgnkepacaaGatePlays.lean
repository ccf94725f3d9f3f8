/- The walks of chapter 21's laws GateNone and GatePlays: each answers true. -/
import Derived.Test.YtnacjcgnkepacaaGateLaw
import Derived.Test.YtnacjcgnkepacaaRegion
namespace Go.Proofs.Ytnacjcgnkepacaa
open Go.RowKit
set_option linter.unusedVariables false
set_option linter.unusedSimpArgs false

theorem gmay_nil_still (d : Nat) (w : World) (hd : d ≤ 255) :
    Calls Try.prog 11 #[.pointer none, .int .u8 (d : Int)] w fun e w' => e = .returned (.bool false) ∧ Still w w' := gmay_nil d w hd

set_option maxHeartbeats 1000000 in
theorem gateNone_any (d : Int) (y : Bool) (w : World) (h1 : 0 ≤ d) (h2 : d ≤ 255) :
    Calls Try.prog 5 #[.int .u8 d, .bool y] w fun e w' => e = .returned (.bool true) ∧ Below w.heap.size w w' := by
  obtain ⟨x, rfl⟩ := Int.eq_ofNat_of_zero_le h1
  go_enter Try.func5, Try.ntmps5
  go_wp2_with fail
  refine (gall_nil _ _).mono ?_
  rintro e w' ⟨rfl, rfl⟩
  go_wp2_with fail
  refine (gstop_nil _ _ _).mono ?_
  rintro e w' ⟨rfl, rfl⟩
  go_wp2_with fail
  refine (gopen_nil _).mono ?_
  rintro e w' ⟨rfl, rfl⟩
  go_wp2_with fail
  refine (gmay_nil_still _ _ (by omega)).mono ?_
  rintro e w1 ⟨rfl, hs⟩
  go_wp2_with fail
  refine (gstopped_nil _).mono ?_
  rintro e w' ⟨rfl, rfl⟩
  go_wp2_with fail
  refine (works_any _).mono ?_
  rintro e w2 ⟨rfl, hb⟩
  go_wp2
  go_ret
  exact ⟨rfl, below_step hs.below (Nat.le_refl _) hb⟩

/-- Both gates lie there and were told the same. -/
structure PlayS (bg br B S : Nat) (C : Bool) (l : List (Nat × Bool)) (w : World) : Prop where
  gate : GateAt w bg S C
  ref : RefAt w br B l
  sim : Sim S C l
  wl : WL l
  len : l.length ≤ 1000
section
variable {bg br B S : Nat} {C : Bool} {l : List (Nat × Bool)} {w w' : World}
theorem PlayS.below (h : PlayS bg br B S C l w) (hb : Below w.heap.size w w') : PlayS bg br B S C l w' := ⟨h.gate.below hb, h.ref.below hb, h.sim, h.wl, h.len⟩
theorem PlayS.told {w2 : World} {y : Bool} (h : PlayS bg br B S C l w) (hne : bg ≠ br) (hg : bg < B) (hr : br < B) (hl : l.length ≤ 500)
    (g1 : GateAt w' bg S (!y)) (g2 : w.grownBy w' (some bg)) (r1 : RefAt w2 br B (l ++ [(0, y)])) (r2 : KeptBut B br w' w2) :
    PlayS bg br B S (!y) (l ++ [(0, y)]) w2 :=
  ⟨r2.gate g1 hg hne, r1, h.sim.all y, h.wl.snoc 0 y (by omega), by simp; omega⟩
theorem PlayS.halted {w2 : World} {d : Nat} {y : Bool} (h : PlayS bg br B S C l w) (hne : bg ≠ br) (hg : bg < B) (hd : d ≤ 255) (hl : l.length ≤ 500)
    (g1 : GateAt w' bg (gset S d y) C) (r1 : RefAt w2 br B (rwords l d y)) (r2 : KeptBut B br w' w2) :
    PlayS bg br B (gset S d y) C (rwords l d y) w2 :=
  ⟨r2.gate g1 hg hne, r1, h.sim.stopped d y, (h.wl.words d y hd).1, by have := (h.wl.words d y hd).2; omega⟩
/-- A Call that came in, cell by cell. -/
structure CellAt (bl p : Nat) (all : Bool) (dk : Nat) (yk : Bool) (w : World) : Prop where
  c0 : w.cell? ⟨bl, p, none⟩ = some (.bool all)
  c1 : w.cell? ⟨bl, p + 1, none⟩ = some (.int .u8 (dk : Int))
  c2 : w.cell? ⟨bl, p + 2, none⟩ = some (.bool yk)
  lt : bl < w.heap.size
theorem CellAt.keep {bl p dk : Nat} {all yk : Bool} {w w' : World} (h : CellAt bl p all dk yk w) (hb : w'.heap[bl]? = w.heap[bl]?) (hs : w.heap.size ≤ w'.heap.size) : CellAt bl p all dk yk w' :=
  ⟨(World.cell?_of_block (w := w) (a := ⟨bl, p, none⟩) hb).trans h.c0, (World.cell?_of_block (w := w) (a := ⟨bl, p + 1, none⟩) hb).trans h.c1, (World.cell?_of_block (w := w) (a := ⟨bl, p + 2, none⟩) hb).trans h.c2, Nat.lt_of_lt_of_le h.lt hs⟩
theorem CellAt.below {bl p dk : Nat} {all yk : Bool} {w w' : World} (h : CellAt bl p all dk yk w) (hb : Below w.heap.size w w') : CellAt bl p all dk yk w' := h.keep (hb.block _ h.lt) hb.size
theorem CellAt.other {bl p dk g : Nat} {all yk : Bool} {w w' : World} (h : CellAt bl p all dk yk w) (hb : w.grownBy w' (some g)) (hne : bl ≠ g) : CellAt bl p all dk yk w' := h.keep (hb.block _ h.lt (by simpa using hne)) hb.size
theorem CellAt.kept {bl p dk B b : Nat} {all yk : Bool} {w w' : World} (h : CellAt bl p all dk yk w) (hb : KeptBut B b w w') (h1 : bl < B) (hne : bl ≠ b) : CellAt bl p all dk yk w' := h.keep (hb.block _ h1 hne) hb.size
structure SPlay (w0 w1 : World) (S : Nat) (C : Bool) (l : List (Nat × Bool)) (bl p : Nat) (all : Bool) (dk : Nat) (yk : Bool) (w : World) : Prop where
  play : PlayS w0.heap.size w1.heap.size (w1.heap.size + 1) S C l w
  cells : CellAt bl p all dk yk w
  below : Below w0.heap.size w0 w
  size : w1.heap.size + 1 ≤ w.heap.size
theorem SPlay.cell {w0 w1 : World} {bl p dk : Nat} {all yk : Bool} (h : SPlay w0 w1 S C l bl p all dk yk w) : w.cell? ⟨bl, p + 1, none⟩ = some (.int .u8 (dk : Int)) := h.cells.c1
theorem SPlay.step {w0 w1 : World} {bl p dk : Nat} {all yk : Bool} (h : SPlay w0 w1 S C l bl p all dk yk w) (hb : Below w.heap.size w w') : SPlay w0 w1 S C l bl p all dk yk w' :=
  ⟨h.play.below hb, h.cells.below hb, below_step h.below (Nat.le_refl _) hb, Nat.le_trans h.size hb.size⟩
theorem p_open (h : PlayS bg br B S C l w) :
    Calls Try.prog 9 #[.pointer (some ⟨bg, 0, none⟩)] w fun e w' => e = .returned (.bool (lastW l 0 true)) ∧ w = w' := by
  rw [← h.sim.open_]; exact gopen_any bg S C w h.gate
theorem p_ropen (h : PlayS bg br B S C l w) :
    Calls Try.prog 10 #[.pointer (some ⟨br, 0, none⟩)] w fun e w' => e = .returned (.bool (lastW l 0 true)) ∧ w = w' := ropen_any br B l w h.ref h.len h.wl
theorem p_may (h : PlayS bg br B S C l w) (d : Nat) (hd : d ≤ 255) :
    Calls Try.prog 11 #[.pointer (some ⟨bg, 0, none⟩), .int .u8 (d : Int)] w fun e w' => e = .returned (.bool (rmay l d)) ∧ Below w.heap.size w w' := by
  rw [← h.sim.may d]; exact (gmay_still bg S d C w h.gate hd).mono fun _ _ ⟨a, b⟩ => ⟨a, b.below⟩
theorem p_rmay (h : PlayS bg br B S C l w) (d : Nat) (hd : d ≤ 255) :
    Calls Try.prog 12 #[.pointer (some ⟨br, 0, none⟩), .int .u8 (d : Int)] w fun e w' => e = .returned (.bool (rmay l d)) ∧ w = w' := rmay_any br B d l w h.ref h.len h.wl hd
theorem p_stopped (h : PlayS bg br B S C l w) :
    Calls Try.prog 14 #[.pointer (some ⟨bg, 0, none⟩)] w fun e w' => ∃ a c, e = .returned (.slice a (rstops l 64).length c) ∧ Holds8 w' a (rstops l 64).length (rstops l 64) ∧ Below w.heap.size w w' := by
  rw [← h.sim.stops]
  refine (gstopped_any bg S C w h.gate).mono ?_
  rintro e w' ⟨v, rfl, hown, hb⟩
  obtain ⟨a, c, rfl, hh⟩ := ownsRow_holds rfl hown
  exact ⟨a, c, rfl, hh, hb⟩
theorem p_rstopped (h : PlayS bg br B S C l w) :
    Calls Try.prog 15 #[.pointer (some ⟨br, 0, none⟩)] w fun e w' => ∃ a c, e = .returned (.slice a (rstops l 64).length c) ∧ Holds8 w' a (rstops l 64).length (rstops l 64) ∧ Below w.heap.size w w' := by
  refine (rstopped_any br B l w h.ref h.len h.wl).mono ?_
  rintro e w' ⟨v, rfl, hown, hb⟩
  obtain ⟨a, c, rfl, hh⟩ := ownsRow_holds rfl hown
  exact ⟨a, c, rfl, hh, hb⟩
theorem p_same (a1 a2 : Option Addr) (n c1 c2 : Nat) (l : List Int) (w : World) (hn : n ≤ 1000000) (h1 : Holds8 w a1 n l) (h2 : Holds8 w a2 n l) :
    Calls Try.prog 13 #[.slice a1 n c1, .slice a2 n c2] w fun e w' => e = .returned (.bool true) ∧ Below w.heap.size w w' :=
  (same_any a1 a2 n c1 c2 l w hn h1 h2).mono fun _ _ ⟨a, b⟩ => ⟨a, b.below⟩
end

set_option maxHeartbeats 4000000 in
set_option maxRecDepth 100000 in
theorem gatePlays_any (a : Option Addr) (n c : Nat) (cs : List (Bool × Nat × Bool)) (d : Int) (w : World) (hc : CallsAt w a n cs) (hn : n ≤ 9223372036854775807) (h1 : 0 ≤ d) (h2 : d ≤ 255) :
    Calls Try.prog 3 #[.slice a n c, .int .u8 d] w fun e w' => e = .returned (.bool true) ∧ Below w.heap.size w w' := by
  obtain ⟨x, rfl⟩ := Int.eq_ofNat_of_zero_le h1
  by_cases hl : 100 < n
  · go_enter Try.func3, Try.ntmps3
    go_wp2_with fail
    refine (works_any _).mono ?_
    rintro e w2 ⟨rfl, hb⟩
    go_wp2
    go_ret
    exact ⟨rfl, hb⟩
  · go_enter Try.func3, Try.ntmps3
    go_wp2_with fail
    refine (gnew_any _).mono ?_
    rintro e w1 ⟨rfl, hw1⟩
    have hg1 := gate_new w
    rw [← hw1] at hg1
    have hb1 : Below w.heap.size w w1 := by rw [hw1]; exact (Below.refl _ _).alloc (Nat.le_refl _) _
    have hz1 : w1.heap.size = w.heap.size + 1 := by rw [hw1]; simp
    clear hw1
    have hzl : w.heap.size < w1.heap.size := by omega
    have hzn : w.heap.size ≠ w1.heap.size := by omega
    have hzb : w.heap.size < w1.heap.size + 1 := by omega
    have hzc : w1.heap.size < w1.heap.size + 1 := by omega
    have HZN := hide (And.intro hzn (And.intro hzn.symm (And.intro hzb hzc)))
    clear hz1 hzn hzb hzc
    go_wp2_with fail
    go_loopw [7] (fun i wr => ∃ (k S : Nat) (C : Bool) (l : List (Nat × Bool)), k ≤ n ∧ i = .int .i64 k ∧ PlayS w.heap.size w1.heap.size (w1.heap.size + 1) S C l wr ∧ l.length ≤ k ∧ Below w.heap.size w wr ∧ w1.heap.size + 1 ≤ wr.heap.size) (fun i _ => n + 1 - (intOf i).toNat)
    case atStart =>
      refine ⟨0, 0, false, [], by omega, rfl, ⟨hg1.below ((Below.refl _ _).alloc (Nat.le_refl _) _), ?_, Sim.start, (fun p hp => by cases hp), by simp⟩, by simp, (hb1.alloc hb1.size _), by simp⟩
      exact ⟨.slice none 0 0, World.cell?_alloc_new _ _ _ _, World.frozen?_alloc_at _ _ _ _ rfl, World.ownsRow_nil _ _ _ _⟩
    case round =>
      obtain ⟨k, S, C, l, hk, rfl, hp, hll, hb, hz⟩ := hrel
      by_cases hlt : k < n
      · obtain ⟨hcl, hcb, hcc⟩ := hc
        obtain ⟨bl, ol, rfl, hblt, hcells⟩ := hcc (by omega)
        obtain ⟨q1, q2, q3⟩ := hcells k (by omega)
        have hd255 := hcb cs[k] (List.getElem_mem (by omega))
        generalize cs[k] = ck at q1 q2 q3 hd255
        obtain ⟨all, dk, yk⟩ := ck
        dsimp only at q1 q2 q3 hd255
        clear hcb hcc hcells hcl
        have hblr : bl < wr.heap.size := Nat.lt_of_lt_of_le hblt hb.size
        have hS0 : SPlay w w1 S C l bl (ol + k * 3) all dk yk wr.drew :=
          ⟨hp.below ((Below.refl _ _).drew), ⟨(hb.cell (p := ⟨bl, ol + k * 3, none⟩) hblt).trans q1, (hb.cell (p := ⟨bl, ol + k * 3 + 1, none⟩) hblt).trans q2, (hb.cell (p := ⟨bl, ol + k * 3 + 2, none⟩) hblt).trans q3, hblr⟩, hb.drew, hz⟩
        have hst := rstops_length l 64
        have hwl2 := (hp.wl.words dk yk hd255).2
        have HL5 := hide (show l.length ≤ 500 ∧ l.length ≤ 1000 ∧ bl ≠ w.heap.size ∧ (∀ j, some w.heap.size = some j → w.heap.size ≤ j) ∧ bl < w1.heap.size + 1 ∧ bl ≠ w1.heap.size ∧ (l ++ [(0, yk)]).length ≤ k + 1 ∧ (rwords l dk yk).length ≤ k + 1 by
          refine ⟨by omega, by omega, by omega, fun j hj => by simp at hj; omega, by omega, by omega, by simp; omega, by omega⟩)
        clear hp hb hz q1 q2 q3 hwl2 hblt hblr
        go_wp2_with fail
        refine wp_region_held (S := SPlay w w1 S C l bl (ol + k * 3) all dk yk) (by kernel_rfl) ?_
        change wpAnyH _ _ _ _ _ _ _ _ (World.drew _)
        refine take_atH 0 21 hS0 rfl rfl (by kernel_rfl) (by kernel_rfl) (by kernel_rfl) (fun _ _ _ h => h) rfl (fun wq hq => by go_simp; first | done | with_reducible rfl) ?_
        simp only [Act.put, List.setIfInBounds_toArray, List.set_cons_zero, List.set_cons_succ]
        refine take_atH 2 23 hS0 rfl rfl (by kernel_rfl) (by kernel_rfl) (by kernel_rfl) (fun _ _ _ h => h) rfl (fun wq hq => by go_simp; first | done | with_reducible rfl) ?_
        simp only [Act.put, List.setIfInBounds_toArray, List.set_cons_zero, List.set_cons_succ]
        refine lone_atH 1 rfl (by kernel_rfl) rfl (fun K hK => ?_)
        go_simp
        refine (p_open hS0.play).mono ?_; rintro e w' ⟨rfl, rfl⟩
        refine hK _ _ hS0 ?_; clear hK K
        refine lone_atH 3 rfl (by kernel_rfl) rfl (fun K hK => ?_)
        go_simp
        refine (p_ropen hS0.play).mono ?_; rintro e w' ⟨rfl, rfl⟩
        refine hK _ _ hS0 ?_; clear hK K
        refine take_atH 4 25 hS0 rfl rfl (by kernel_rfl) (by kernel_rfl) (by kernel_rfl) (fun _ _ _ h => h) rfl (fun wq hq => by go_simp; first | done | with_reducible rfl) ?_
        simp only [Act.put, List.setIfInBounds_toArray, List.set_cons_zero, List.set_cons_succ]
        refine take_atH 5 26 hS0 rfl rfl (by kernel_rfl) (by kernel_rfl) (by kernel_rfl) (fun _ _ _ h => h) rfl (fun wq hq => by go_simp; first | done | with_reducible rfl) ?_
        simp only [Act.put, List.setIfInBounds_toArray, List.set_cons_zero, List.set_cons_succ]
        refine take_atH 6 27 hS0 rfl rfl (by kernel_rfl) (by kernel_rfl) (by kernel_rfl) (fun _ _ _ h => h) rfl (fun wq hq => by go_simp; first | done | with_reducible rfl) ?_
        simp only [Act.put, List.setIfInBounds_toArray, List.set_cons_zero, List.set_cons_succ]
        refine take_atH 7 28 hS0 rfl rfl (by kernel_rfl) (by kernel_rfl) (by kernel_rfl) (fun _ _ _ h => h) rfl (fun wq hq => by go_simp; first | done | with_reducible rfl) ?_
        simp only [Act.put, List.setIfInBounds_toArray, List.set_cons_zero, List.set_cons_succ]
        refine take_atH 9 30 hS0 rfl rfl (by kernel_rfl) (by kernel_rfl) (by kernel_rfl) (fun _ _ _ h => h) rfl (fun wq hq => by go_simp; first | done | with_reducible rfl) ?_
        simp only [Act.put, List.setIfInBounds_toArray, List.set_cons_zero, List.set_cons_succ]
        refine take_atH 10 31 hS0 rfl rfl (by kernel_rfl) (by kernel_rfl) (by kernel_rfl) (fun _ _ _ h => h) rfl (fun wq hq => by go_simp; first | done | with_reducible rfl) ?_
        simp only [Act.put, List.setIfInBounds_toArray, List.set_cons_zero, List.set_cons_succ]
        refine lone_atH 8 rfl (by kernel_rfl) rfl (fun K hK => ?_)
        go_simp
        refine (p_may hS0.play _ (by omega)).mono ?_; rintro e wm ⟨rfl, hn1⟩; have hS1 := hS0.step hn1
        refine hK _ _ hS1 ?_; clear hK K
        refine lone_atH 11 rfl (by kernel_rfl) rfl (fun K hK => ?_)
        go_simp
        refine (p_rmay hS1.play _ (by omega)).mono ?_; rintro e w' ⟨rfl, rfl⟩
        refine hK _ _ hS1 ?_; clear hK K
        refine take_atH 12 33 hS1 rfl rfl (by kernel_rfl) (by kernel_rfl) (by kernel_rfl) (fun _ _ _ h => h) rfl (fun wq hq => by go_simp; first | done | with_reducible rfl) ?_
        simp only [Act.put, List.setIfInBounds_toArray, List.set_cons_zero, List.set_cons_succ]
        refine take_atH 13 34 hS1 rfl rfl (by kernel_rfl) (by kernel_rfl) (by kernel_rfl) (fun _ _ _ h => h) rfl (fun wq hq => by go_simp; first | done | with_reducible rfl) ?_
        simp only [Act.put, List.setIfInBounds_toArray, List.set_cons_zero, List.set_cons_succ]
        refine take_atH 14 35 hS1 rfl rfl (by kernel_rfl) (by kernel_rfl) (by kernel_rfl) (fun _ _ _ h => h) rfl (fun wq hq => by go_simp; first | done | with_reducible rfl) ?_
        simp only [Act.put, List.setIfInBounds_toArray, List.set_cons_zero, List.set_cons_succ]
        refine take_atH 15 36 hS1 rfl rfl (by kernel_rfl) (by kernel_rfl) (by kernel_rfl) (fun _ _ _ h => h) rfl (fun wq hq => by go_simp; first | done | with_reducible rfl) ?_
        simp only [Act.put, List.setIfInBounds_toArray, List.set_cons_zero, List.set_cons_succ]
        refine take_atH 17 38 hS1 rfl rfl (by kernel_rfl) (by kernel_rfl) (by kernel_rfl) (fun _ _ _ h => h) rfl (fun wq hq => by go_simp; first | done | with_reducible rfl) ?_
        simp only [Act.put, List.setIfInBounds_toArray, List.set_cons_zero, List.set_cons_succ]
        refine lone_atH 16 rfl (by kernel_rfl) rfl (fun K hK => ?_)
        go_simp
        refine (p_stopped hS1.play).mono ?_; rintro e ws ⟨a1, c1, rfl, hh1, hn2⟩; have hS2 := hS1.step hn2
        refine hK _ _ hS2 ?_; clear hK K
        refine lone_atH 18 rfl (by kernel_rfl) rfl (fun K hK => ?_)
        go_simp
        refine (p_rstopped hS2.play).mono ?_; rintro e wt ⟨a2, c2, rfl, hh2, hn3⟩; have hS3 := hS2.step hn3
        refine hK _ _ hS3 ?_; clear hK K
        refine lone_atH 19 rfl (by kernel_rfl) rfl (fun K hK => ?_)
        go_simp
        refine (p_same _ _ _ _ _ _ _ (by omega) (hh1.below hn3) hh2).mono ?_; rintro e wu ⟨rfl, hn4⟩; have hS4 := hS3.step hn4
        refine hK _ _ hS4 ?_; clear hK K
        refine take_atH 20 41 hS4 rfl rfl (by kernel_rfl) (by kernel_rfl) (by kernel_rfl) (fun _ _ _ h => h) rfl (fun wq hq => by go_simp; first | done | with_reducible rfl) ?_
        simp only [Act.put, List.setIfInBounds_toArray, List.set_cons_zero, List.set_cons_succ]
        refine take_atH 21 42 hS4 rfl rfl (by kernel_rfl) (by kernel_rfl) (by kernel_rfl) (fun _ _ _ h => h) rfl (fun wq hq => by go_simp; first | done | with_reducible rfl) ?_
        simp only [Act.put, List.setIfInBounds_toArray, List.set_cons_zero, List.set_cons_succ]
        refine take_atH 22 43 hS4 rfl rfl (by kernel_rfl) (by kernel_rfl) (by kernel_rfl) (fun _ _ _ h => h) rfl (fun wq hq => by go_simp; first | done | with_reducible rfl) ?_
        simp only [Act.put, List.setIfInBounds_toArray, List.set_cons_zero, List.set_cons_succ]
        refine take_atH 23 44 hS4 rfl rfl (by kernel_rfl) (by kernel_rfl) (by kernel_rfl) (fun _ _ _ h => h) rfl (fun wq hq => by go_simp; first | done | with_reducible rfl) ?_
        simp only [Act.put, List.setIfInBounds_toArray, List.set_cons_zero, List.set_cons_succ]
        refine take_atH 24 45 hS4 rfl rfl (by kernel_rfl) (by kernel_rfl) (by kernel_rfl) (fun _ _ _ h => h) rfl (fun wq hq => by go_simp; first | done | with_reducible rfl) ?_
        simp only [Act.put, List.setIfInBounds_toArray, List.set_cons_zero, List.set_cons_succ]
        refine take_atH 25 46 hS4 rfl rfl (by kernel_rfl) (by kernel_rfl) (by kernel_rfl) (fun _ _ _ h => h) rfl (fun wq hq => by go_simp; first | done | with_reducible rfl) ?_
        simp only [Act.put, List.setIfInBounds_toArray, List.set_cons_zero, List.set_cons_succ]
        refine take_atH 26 47 hS4 rfl rfl (by kernel_rfl) (by kernel_rfl) (by kernel_rfl) (fun _ _ _ h => h) rfl (fun wq hq => by go_simp; first | done | with_reducible rfl) ?_
        simp only [Act.put, List.setIfInBounds_toArray, List.set_cons_zero, List.set_cons_succ]
        refine take_atH 27 48 hS4 rfl rfl (by kernel_rfl) (by kernel_rfl) (by kernel_rfl) (fun _ _ _ h => h) rfl (fun wq hq => by go_simp; first | done | with_reducible rfl) ?_
        simp only [Act.put, List.setIfInBounds_toArray, List.set_cons_zero, List.set_cons_succ]
        refine take_atH 28 49 hS4 rfl rfl (by kernel_rfl) (by kernel_rfl) (by kernel_rfl) (fun _ _ _ h => h) rfl (fun wq hq => by go_simp; first | done | with_reducible rfl) ?_
        simp only [Act.put, List.setIfInBounds_toArray, List.set_cons_zero, List.set_cons_succ]
        refine take_atH 29 50 hS4 rfl rfl (by kernel_rfl) (by kernel_rfl) (by kernel_rfl) (fun _ _ _ h => h) rfl (fun wq hq => by go_simp; first | done | with_reducible rfl) ?_
        simp only [Act.put, List.setIfInBounds_toArray, List.set_cons_zero, List.set_cons_succ]
        refine take_atH 30 51 hS4 rfl rfl (by kernel_rfl) (by kernel_rfl) (by kernel_rfl) (fun _ _ _ h => h) rfl (fun wq hq => by go_simp; first | done | with_reducible rfl) ?_
        simp only [Act.put, List.setIfInBounds_toArray, List.set_cons_zero, List.set_cons_succ]
        refine take_atH 31 52 hS4 rfl rfl (by kernel_rfl) (by kernel_rfl) (by kernel_rfl) (fun _ _ _ h => h) rfl (fun wq hq => by go_simp; first | done | with_reducible rfl) ?_
        simp only [Act.put, List.setIfInBounds_toArray, List.set_cons_zero, List.set_cons_succ]
        refine take_atH 32 53 hS4 rfl rfl (by kernel_rfl) (by kernel_rfl) (by kernel_rfl) (fun _ _ _ h => h) rfl (fun wq hq => by go_simp; first | done | with_reducible rfl) ?_
        simp only [Act.put, List.setIfInBounds_toArray, List.set_cons_zero, List.set_cons_succ]
        refine take_atH 33 54 hS4 rfl rfl (by kernel_rfl) (by kernel_rfl) (by kernel_rfl) (fun _ _ _ h => h) rfl (fun wq hq => by have hc := hq.cell; go_simp; first | done | with_reducible rfl) ?_
        simp only [Act.put, List.setIfInBounds_toArray, List.set_cons_zero, List.set_cons_succ]
        refine take_atH 35 56 hS4 rfl rfl (by kernel_rfl) (by kernel_rfl) (by kernel_rfl) (fun _ _ _ h => h) rfl (fun wq hq => by go_simp; first | done | with_reducible rfl) ?_
        simp only [Act.put, List.setIfInBounds_toArray, List.set_cons_zero, List.set_cons_succ]
        refine take_atH 36 57 hS4 rfl rfl (by kernel_rfl) (by kernel_rfl) (by kernel_rfl) (fun _ _ _ h => h) rfl (fun wq hq => by go_simp; first | done | with_reducible rfl) ?_
        simp only [Act.put, List.setIfInBounds_toArray, List.set_cons_zero, List.set_cons_succ]
        refine take_atH 37 58 hS4 rfl rfl (by kernel_rfl) (by kernel_rfl) (by kernel_rfl) (fun _ _ _ h => h) rfl (fun wq hq => by go_simp; first | done | with_reducible rfl) ?_
        simp only [Act.put, List.setIfInBounds_toArray, List.set_cons_zero, List.set_cons_succ]
        refine take_atH 38 59 hS4 rfl rfl (by kernel_rfl) (by kernel_rfl) (by kernel_rfl) (fun _ _ _ h => h) rfl (fun wq hq => by go_simp; first | done | with_reducible rfl) ?_
        simp only [Act.put, List.setIfInBounds_toArray, List.set_cons_zero, List.set_cons_succ]
        refine take_atH 39 60 hS4 rfl rfl (by kernel_rfl) (by kernel_rfl) (by kernel_rfl) (fun _ _ _ h => h) rfl (fun wq hq => by go_simp; first | done | with_reducible rfl) ?_
        simp only [Act.put, List.setIfInBounds_toArray, List.set_cons_zero, List.set_cons_succ]
        refine take_atH 40 61 hS4 rfl rfl (by kernel_rfl) (by kernel_rfl) (by kernel_rfl) (fun _ _ _ h => h) rfl (fun wq hq => by have hc := hq.cell; go_simp; first | done | with_reducible rfl) ?_
        simp only [Act.put, List.setIfInBounds_toArray, List.set_cons_zero, List.set_cons_succ]
        refine lone_atH 34 rfl (by kernel_rfl) rfl (fun K hK => ?_)
        go_simp
        refine (p_may hS4.play _ hd255).mono ?_; rintro e wv ⟨rfl, hn5⟩; have hS5 := hS4.step hn5
        refine hK _ _ hS5 ?_; clear hK K
        refine lone_atH 41 rfl (by kernel_rfl) rfl (fun K hK => ?_)
        go_simp
        refine (p_rmay hS5.play _ hd255).mono ?_; rintro e w' ⟨rfl, rfl⟩
        refine hK _ _ hS5 ?_; clear hK K
        refine take_atH 42 63 hS5 rfl rfl (by kernel_rfl) (by kernel_rfl) (by kernel_rfl) (fun _ _ _ h => h) rfl (fun wq hq => by go_simp; first | done | with_reducible rfl) ?_
        simp only [Act.put, List.setIfInBounds_toArray, List.set_cons_zero, List.set_cons_succ]
        refine take_atH 43 64 hS5 rfl rfl (by kernel_rfl) (by kernel_rfl) (by kernel_rfl) (fun _ _ _ h => h) rfl (fun wq hq => by go_simp; first | done | with_reducible rfl) ?_
        simp only [Act.put, List.setIfInBounds_toArray, List.set_cons_zero, List.set_cons_succ]
        refine take_atH 44 65 hS5 rfl rfl (by kernel_rfl) (by kernel_rfl) (by kernel_rfl) (fun _ _ _ h => h) rfl (fun wq hq => by go_simp; first | done | with_reducible rfl) ?_
        simp only [Act.put, List.setIfInBounds_toArray, List.set_cons_zero, List.set_cons_succ]
        refine wpAnyH_done (by kernel_rfl) ?_ _
        clear hn1 hn2 hn3 hn4 hn5 hh1 hh2 hS0 hS1 hS2 hS3 hS4
        have hne : ((k : Int) == (n : Int)) = false := by rw [beq_eq_false_iff_ne]; omega
        have ha := hS5.cells.c0
        cases all with
        | true =>
          have hy := hS5.cells.c2
          go_wp2_with fail
          refine (gall_any w.heap.size S C yk _ hS5.play.gate).mono ?_
          rintro e w3 ⟨rfl, g1, g2⟩
          have hT := hS5.cells.other g2 HL5.out.2.2.1
          have hy3 := hT.c2
          have hz3 := Nat.le_trans hS5.size g2.size
          go_wp2_with fail
          refine (rall_any w1.heap.size (w1.heap.size + 1) yk l _ (hS5.play.ref.other g2 HZN.out.2.1 HZN.out.2.2.1) HL5.out.2.1 HZN.out.2.2.2 hz3).mono ?_
          rintro e w4 ⟨rfl, r1, r2⟩
          have hp4 := hS5.play.told HZN.out.1 HZN.out.2.2.1 HZN.out.2.2.2 HL5.out.1 g1 g2 r1 r2
          have hb4 : Below w.heap.size w w4 := r2.step (hS5.below.grown g2 hS5.below.size HL5.out.2.2.2.1) (Nat.le_of_lt hzl) (Nat.le_of_lt HZN.out.2.2.1)
          have hz4 : w1.heap.size + 1 ≤ w4.heap.size := Nat.le_trans hz3 r2.size
          clear hS5 g1 g2 r1 r2 hz3 hT hy hy3 ha
          go_wp2
          go_roundw
          case rel => exact ⟨k + 1, _, _, _, by omega, by go_num, hp4, HL5.out.2.2.2.2.2.2.1, hb4, hz4⟩
          case measure => simp [intOf]; omega
        | false =>
          have hS6 := hS5.step ((Below.refl _ _).drew)
          go_wp2_with fail
          refine wp_region_held (S := CellAt bl (ol + k * 3) false dk yk) (by kernel_rfl) ?_
          change wpAnyH _ _ _ _ _ _ _ _ (World.drew _)
          refine take_atH 0 90 hS6.cells rfl rfl (by kernel_rfl) (by kernel_rfl) (by kernel_rfl) (fun _ _ _ h => h) rfl (fun wq hq => by go_simp; first | done | with_reducible rfl) ?_
          simp only [Act.put, List.setIfInBounds_toArray, List.set_cons_zero, List.set_cons_succ]
          refine take_atH 1 91 hS6.cells rfl rfl (by kernel_rfl) (by kernel_rfl) (by kernel_rfl) (fun _ _ _ h => h) rfl (fun wq hq => by go_simp; first | done | with_reducible rfl) ?_
          simp only [Act.put, List.setIfInBounds_toArray, List.set_cons_zero, List.set_cons_succ]
          refine take_atH 2 92 hS6.cells rfl rfl (by kernel_rfl) (by kernel_rfl) (by kernel_rfl) (fun _ _ _ h => h) rfl (fun wq hq => by go_simp; first | done | with_reducible rfl) ?_
          simp only [Act.put, List.setIfInBounds_toArray, List.set_cons_zero, List.set_cons_succ]
          refine take_atH 3 93 hS6.cells rfl rfl (by kernel_rfl) (by kernel_rfl) (by kernel_rfl) (fun _ _ _ h => h) rfl (fun wq hq => by go_simp; first | done | with_reducible rfl) ?_
          simp only [Act.put, List.setIfInBounds_toArray, List.set_cons_zero, List.set_cons_succ]
          refine take_atH 4 94 hS6.cells rfl rfl (by kernel_rfl) (by kernel_rfl) (by kernel_rfl) (fun _ _ _ h => h) rfl (fun wq hq => by go_simp; first | done | with_reducible rfl) ?_
          simp only [Act.put, List.setIfInBounds_toArray, List.set_cons_zero, List.set_cons_succ]
          refine take_atH 5 95 hS6.cells rfl rfl (by kernel_rfl) (by kernel_rfl) (by kernel_rfl) (fun _ _ _ h => h) rfl (fun wq hq => by have hc1 := hq.c1; have hc2 := hq.c2; go_simp; first | done | with_reducible rfl) ?_
          simp only [Act.put, List.setIfInBounds_toArray, List.set_cons_zero, List.set_cons_succ]
          refine take_atH 6 96 hS6.cells rfl rfl (by kernel_rfl) (by kernel_rfl) (by kernel_rfl) (fun _ _ _ h => h) rfl (fun wq hq => by go_simp; first | done | with_reducible rfl) ?_
          simp only [Act.put, List.setIfInBounds_toArray, List.set_cons_zero, List.set_cons_succ]
          refine take_atH 7 97 hS6.cells rfl rfl (by kernel_rfl) (by kernel_rfl) (by kernel_rfl) (fun _ _ _ h => h) rfl (fun wq hq => by go_simp; first | done | with_reducible rfl) ?_
          simp only [Act.put, List.setIfInBounds_toArray, List.set_cons_zero, List.set_cons_succ]
          refine take_atH 8 98 hS6.cells rfl rfl (by kernel_rfl) (by kernel_rfl) (by kernel_rfl) (fun _ _ _ h => h) rfl (fun wq hq => by go_simp; first | done | with_reducible rfl) ?_
          simp only [Act.put, List.setIfInBounds_toArray, List.set_cons_zero, List.set_cons_succ]
          refine take_atH 9 99 hS6.cells rfl rfl (by kernel_rfl) (by kernel_rfl) (by kernel_rfl) (fun _ _ _ h => h) rfl (fun wq hq => by go_simp; first | done | with_reducible rfl) ?_
          simp only [Act.put, List.setIfInBounds_toArray, List.set_cons_zero, List.set_cons_succ]
          refine take_atH 10 100 hS6.cells rfl rfl (by kernel_rfl) (by kernel_rfl) (by kernel_rfl) (fun _ _ _ h => h) rfl (fun wq hq => by have hc1 := hq.c1; have hc2 := hq.c2; go_simp; first | done | with_reducible rfl) ?_
          simp only [Act.put, List.setIfInBounds_toArray, List.set_cons_zero, List.set_cons_succ]
          refine lone_atH 11 rfl (by kernel_rfl) rfl (fun K hK => ?_)
          go_simp
          refine (gstop_any w.heap.size S dk C yk _ hS6.play.gate hd255).mono ?_; rintro e w3 ⟨rfl, g1, g2⟩; have hT1 := hS6.cells.other g2 HL5.out.2.2.1
          refine hK _ _ hT1 ?_; clear hK K
          refine wpAnyH_done (by kernel_rfl) ?_ _
          have hT2 := hT1.below ((Below.refl _ _).drew)
          have hz3 : w1.heap.size + 1 ≤ w3.drew.heap.size := Nat.le_trans hS6.size g2.size
          have hr3 : RefAt w3.drew w1.heap.size (w1.heap.size + 1) l := (hS6.play.ref.other g2 HZN.out.2.1 HZN.out.2.2.1).drewN 1
          go_wp2_with fail
          refine wp_region_held (S := CellAt bl (ol + k * 3) false dk yk) (by kernel_rfl) ?_
          change wpAnyH _ _ _ _ _ _ _ _ (World.drew _)
          refine take_atH 0 102 hT2 rfl rfl (by kernel_rfl) (by kernel_rfl) (by kernel_rfl) (fun _ _ _ h => h) rfl (fun wq hq => by go_simp; first | done | with_reducible rfl) ?_
          simp only [Act.put, List.setIfInBounds_toArray, List.set_cons_zero, List.set_cons_succ]
          refine take_atH 1 103 hT2 rfl rfl (by kernel_rfl) (by kernel_rfl) (by kernel_rfl) (fun _ _ _ h => h) rfl (fun wq hq => by go_simp; first | done | with_reducible rfl) ?_
          simp only [Act.put, List.setIfInBounds_toArray, List.set_cons_zero, List.set_cons_succ]
          refine take_atH 2 104 hT2 rfl rfl (by kernel_rfl) (by kernel_rfl) (by kernel_rfl) (fun _ _ _ h => h) rfl (fun wq hq => by go_simp; first | done | with_reducible rfl) ?_
          simp only [Act.put, List.setIfInBounds_toArray, List.set_cons_zero, List.set_cons_succ]
          refine take_atH 3 105 hT2 rfl rfl (by kernel_rfl) (by kernel_rfl) (by kernel_rfl) (fun _ _ _ h => h) rfl (fun wq hq => by go_simp; first | done | with_reducible rfl) ?_
          simp only [Act.put, List.setIfInBounds_toArray, List.set_cons_zero, List.set_cons_succ]
          refine take_atH 4 106 hT2 rfl rfl (by kernel_rfl) (by kernel_rfl) (by kernel_rfl) (fun _ _ _ h => h) rfl (fun wq hq => by go_simp; first | done | with_reducible rfl) ?_
          simp only [Act.put, List.setIfInBounds_toArray, List.set_cons_zero, List.set_cons_succ]
          refine take_atH 5 107 hT2 rfl rfl (by kernel_rfl) (by kernel_rfl) (by kernel_rfl) (fun _ _ _ h => h) rfl (fun wq hq => by have hc1 := hq.c1; have hc2 := hq.c2; go_simp; first | done | with_reducible rfl) ?_
          simp only [Act.put, List.setIfInBounds_toArray, List.set_cons_zero, List.set_cons_succ]
          refine take_atH 6 108 hT2 rfl rfl (by kernel_rfl) (by kernel_rfl) (by kernel_rfl) (fun _ _ _ h => h) rfl (fun wq hq => by go_simp; first | done | with_reducible rfl) ?_
          simp only [Act.put, List.setIfInBounds_toArray, List.set_cons_zero, List.set_cons_succ]
          refine take_atH 7 109 hT2 rfl rfl (by kernel_rfl) (by kernel_rfl) (by kernel_rfl) (fun _ _ _ h => h) rfl (fun wq hq => by go_simp; first | done | with_reducible rfl) ?_
          simp only [Act.put, List.setIfInBounds_toArray, List.set_cons_zero, List.set_cons_succ]
          refine take_atH 8 110 hT2 rfl rfl (by kernel_rfl) (by kernel_rfl) (by kernel_rfl) (fun _ _ _ h => h) rfl (fun wq hq => by go_simp; first | done | with_reducible rfl) ?_
          simp only [Act.put, List.setIfInBounds_toArray, List.set_cons_zero, List.set_cons_succ]
          refine take_atH 9 111 hT2 rfl rfl (by kernel_rfl) (by kernel_rfl) (by kernel_rfl) (fun _ _ _ h => h) rfl (fun wq hq => by go_simp; first | done | with_reducible rfl) ?_
          simp only [Act.put, List.setIfInBounds_toArray, List.set_cons_zero, List.set_cons_succ]
          refine take_atH 10 112 hT2 rfl rfl (by kernel_rfl) (by kernel_rfl) (by kernel_rfl) (fun _ _ _ h => h) rfl (fun wq hq => by have hc1 := hq.c1; have hc2 := hq.c2; go_simp; first | done | with_reducible rfl) ?_
          simp only [Act.put, List.setIfInBounds_toArray, List.set_cons_zero, List.set_cons_succ]
          refine lone_atH 11 rfl (by kernel_rfl) rfl (fun K hK => ?_)
          go_simp
          refine (rstop_any w1.heap.size (w1.heap.size + 1) dk yk l _ hr3 HL5.out.2.1 HZN.out.2.2.2 hz3 hd255).mono ?_; rintro e w4 ⟨rfl, r1, r2⟩; have hT3 := hT2.kept r2 HL5.out.2.2.2.2.1 HL5.out.2.2.2.2.2.1
          refine hK _ _ hT3 ?_; clear hK K
          refine wpAnyH_done (by kernel_rfl) ?_ _
          have hp4 := hS6.play.halted HZN.out.1 HZN.out.2.2.1 hd255 HL5.out.1 (g1.below ((Below.refl _ _).drew)) r1 r2
          have hb4 : Below w.heap.size w w4 := r2.step ((hS6.below.grown g2 hS6.below.size HL5.out.2.2.2.1).drew) (Nat.le_of_lt hzl) (Nat.le_of_lt HZN.out.2.2.1)
          have hz4 : w1.heap.size + 1 ≤ w4.heap.size := Nat.le_trans hz3 r2.size
          clear hS5 hS6 g1 g2 r1 r2 hz3 hT1 hT2 hT3 ha hr3
          go_wp2
          go_roundw
          case rel => exact ⟨k + 1, _, _, _, by omega, by go_num, hp4, HL5.out.2.2.2.2.2.2.2, hb4, hz4⟩
          case measure => simp [intOf]; omega
      · obtain rfl : k = n := by omega
        have hst := rstops_length l 64
        go_wp2_with fail
        replace hp := hp.below ((Below.refl _ _).drew)
        refine wp_region_any (by kernel_rfl) ?_
        change wpAny _ _ _ _ _ _ _ (World.drew _)
        refine take_at 0 21 rfl rfl (by kernel_rfl) (by kernel_rfl) (by kernel_rfl) (fun _ _ _ h => h) rfl (fun wq => by go_simp; first | done | with_reducible rfl) ?_
        simp only [Act.put, List.setIfInBounds_toArray, List.set_cons_zero, List.set_cons_succ]
        refine take_at 2 23 rfl rfl (by kernel_rfl) (by kernel_rfl) (by kernel_rfl) (fun _ _ _ h => h) rfl (fun wq => by go_simp; first | done | with_reducible rfl) ?_
        simp only [Act.put, List.setIfInBounds_toArray, List.set_cons_zero, List.set_cons_succ]
        refine lone_at 1 rfl (by kernel_rfl) rfl (fun K hK => ?_)
        go_simp
        refine (p_open hp).mono ?_; rintro e w' ⟨rfl, rfl⟩
        refine hK _ _ ?_; clear hK K
        refine lone_at 3 rfl (by kernel_rfl) rfl (fun K hK => ?_)
        go_simp
        refine (p_ropen hp).mono ?_; rintro e w' ⟨rfl, rfl⟩
        refine hK _ _ ?_; clear hK K
        refine take_at 4 25 rfl rfl (by kernel_rfl) (by kernel_rfl) (by kernel_rfl) (fun _ _ _ h => h) rfl (fun wq => by go_simp; first | done | with_reducible rfl) ?_
        simp only [Act.put, List.setIfInBounds_toArray, List.set_cons_zero, List.set_cons_succ]
        refine take_at 5 26 rfl rfl (by kernel_rfl) (by kernel_rfl) (by kernel_rfl) (fun _ _ _ h => h) rfl (fun wq => by go_simp; first | done | with_reducible rfl) ?_
        simp only [Act.put, List.setIfInBounds_toArray, List.set_cons_zero, List.set_cons_succ]
        refine take_at 6 27 rfl rfl (by kernel_rfl) (by kernel_rfl) (by kernel_rfl) (fun _ _ _ h => h) rfl (fun wq => by go_simp; first | done | with_reducible rfl) ?_
        simp only [Act.put, List.setIfInBounds_toArray, List.set_cons_zero, List.set_cons_succ]
        refine take_at 7 28 rfl rfl (by kernel_rfl) (by kernel_rfl) (by kernel_rfl) (fun _ _ _ h => h) rfl (fun wq => by go_simp; first | done | with_reducible rfl) ?_
        simp only [Act.put, List.setIfInBounds_toArray, List.set_cons_zero, List.set_cons_succ]
        refine take_at 9 30 rfl rfl (by kernel_rfl) (by kernel_rfl) (by kernel_rfl) (fun _ _ _ h => h) rfl (fun wq => by go_simp; first | done | with_reducible rfl) ?_
        simp only [Act.put, List.setIfInBounds_toArray, List.set_cons_zero, List.set_cons_succ]
        refine take_at 10 31 rfl rfl (by kernel_rfl) (by kernel_rfl) (by kernel_rfl) (fun _ _ _ h => h) rfl (fun wq => by go_simp; first | done | with_reducible rfl) ?_
        simp only [Act.put, List.setIfInBounds_toArray, List.set_cons_zero, List.set_cons_succ]
        refine lone_at 8 rfl (by kernel_rfl) rfl (fun K hK => ?_)
        go_simp
        refine (p_may hp _ (by omega)).mono ?_; rintro e wm ⟨rfl, hnewm⟩; have hp1 := hp.below hnewm
        refine hK _ _ ?_; clear hK K
        refine lone_at 11 rfl (by kernel_rfl) rfl (fun K hK => ?_)
        go_simp
        refine (p_rmay hp1 _ (by omega)).mono ?_; rintro e w' ⟨rfl, rfl⟩
        refine hK _ _ ?_; clear hK K
        refine take_at 12 33 rfl rfl (by kernel_rfl) (by kernel_rfl) (by kernel_rfl) (fun _ _ _ h => h) rfl (fun wq => by go_simp; first | done | with_reducible rfl) ?_
        simp only [Act.put, List.setIfInBounds_toArray, List.set_cons_zero, List.set_cons_succ]
        refine take_at 13 34 rfl rfl (by kernel_rfl) (by kernel_rfl) (by kernel_rfl) (fun _ _ _ h => h) rfl (fun wq => by go_simp; first | done | with_reducible rfl) ?_
        simp only [Act.put, List.setIfInBounds_toArray, List.set_cons_zero, List.set_cons_succ]
        refine take_at 14 35 rfl rfl (by kernel_rfl) (by kernel_rfl) (by kernel_rfl) (fun _ _ _ h => h) rfl (fun wq => by go_simp; first | done | with_reducible rfl) ?_
        simp only [Act.put, List.setIfInBounds_toArray, List.set_cons_zero, List.set_cons_succ]
        refine take_at 15 36 rfl rfl (by kernel_rfl) (by kernel_rfl) (by kernel_rfl) (fun _ _ _ h => h) rfl (fun wq => by go_simp; first | done | with_reducible rfl) ?_
        simp only [Act.put, List.setIfInBounds_toArray, List.set_cons_zero, List.set_cons_succ]
        refine take_at 17 38 rfl rfl (by kernel_rfl) (by kernel_rfl) (by kernel_rfl) (fun _ _ _ h => h) rfl (fun wq => by go_simp; first | done | with_reducible rfl) ?_
        simp only [Act.put, List.setIfInBounds_toArray, List.set_cons_zero, List.set_cons_succ]
        refine lone_at 16 rfl (by kernel_rfl) rfl (fun K hK => ?_)
        go_simp
        refine (p_stopped hp1).mono ?_; rintro e ws ⟨a1, c1, rfl, hh1, hnews⟩; have hp2 := hp1.below hnews
        refine hK _ _ ?_; clear hK K
        refine lone_at 18 rfl (by kernel_rfl) rfl (fun K hK => ?_)
        go_simp
        refine (p_rstopped hp2).mono ?_; rintro e wt ⟨a2, c2, rfl, hh2, hnewt⟩; have hp3 := hp2.below hnewt
        refine hK _ _ ?_; clear hK K
        refine lone_at 19 rfl (by kernel_rfl) rfl (fun K hK => ?_)
        go_simp
        refine (p_same _ _ _ _ _ _ _ (by omega) (hh1.below hnewt) hh2).mono ?_; rintro e wu ⟨rfl, hnewu⟩; have hp4 := hp3.below hnewu
        refine hK _ _ ?_; clear hK K
        refine take_at 20 41 rfl rfl (by kernel_rfl) (by kernel_rfl) (by kernel_rfl) (fun _ _ _ h => h) rfl (fun wq => by go_simp; first | done | with_reducible rfl) ?_
        simp only [Act.put, List.setIfInBounds_toArray, List.set_cons_zero, List.set_cons_succ]
        refine take_at 21 42 rfl rfl (by kernel_rfl) (by kernel_rfl) (by kernel_rfl) (fun _ _ _ h => h) rfl (fun wq => by go_simp; first | done | with_reducible rfl) ?_
        simp only [Act.put, List.setIfInBounds_toArray, List.set_cons_zero, List.set_cons_succ]
        refine take_at 22 43 rfl rfl (by kernel_rfl) (by kernel_rfl) (by kernel_rfl) (fun _ _ _ h => h) rfl (fun wq => by go_simp; first | done | with_reducible rfl) ?_
        simp only [Act.put, List.setIfInBounds_toArray, List.set_cons_zero, List.set_cons_succ]
        refine take_at 23 44 rfl rfl (by kernel_rfl) (by kernel_rfl) (by kernel_rfl) (fun _ _ _ h => h) rfl (fun wq => by go_simp; first | done | with_reducible rfl) ?_
        simp only [Act.put, List.setIfInBounds_toArray, List.set_cons_zero, List.set_cons_succ]
        refine take_at 24 45 rfl rfl (by kernel_rfl) (by kernel_rfl) (by kernel_rfl) (fun _ _ _ h => h) rfl (fun wq => by go_simp; first | done | with_reducible rfl) ?_
        simp only [Act.put, List.setIfInBounds_toArray, List.set_cons_zero, List.set_cons_succ]
        refine take_at 25 46 rfl rfl (by kernel_rfl) (by kernel_rfl) (by kernel_rfl) (fun _ _ _ h => h) rfl (fun wq => by go_simp; first | done | with_reducible rfl) ?_
        simp only [Act.put, List.setIfInBounds_toArray, List.set_cons_zero, List.set_cons_succ]
        refine take_at 26 47 rfl rfl (by kernel_rfl) (by kernel_rfl) (by kernel_rfl) (fun _ _ _ h => h) rfl (fun wq => by go_simp; first | done | with_reducible rfl) ?_
        simp only [Act.put, List.setIfInBounds_toArray, List.set_cons_zero, List.set_cons_succ]
        refine take_at 27 48 rfl rfl (by kernel_rfl) (by kernel_rfl) (by kernel_rfl) (fun _ _ _ h => h) rfl (fun wq => by go_simp; first | done | with_reducible rfl) ?_
        simp only [Act.put, List.setIfInBounds_toArray, List.set_cons_zero, List.set_cons_succ]
        refine skip_at 28 49 rfl rfl (by kernel_rfl) (by kernel_rfl) (by kernel_rfl) (fun _ _ _ h => h) rfl ?_
        simp only [Act.put, List.setIfInBounds_toArray, List.set_cons_zero, List.set_cons_succ]
        refine skip_at 29 50 rfl rfl (by kernel_rfl) (by kernel_rfl) (by kernel_rfl) (fun _ _ _ h => h) rfl ?_
        simp only [Act.put, List.setIfInBounds_toArray, List.set_cons_zero, List.set_cons_succ]
        refine skip_at 30 51 rfl rfl (by kernel_rfl) (by kernel_rfl) (by kernel_rfl) (fun _ _ _ h => h) rfl ?_
        simp only [Act.put, List.setIfInBounds_toArray, List.set_cons_zero, List.set_cons_succ]
        refine skip_at 31 52 rfl rfl (by kernel_rfl) (by kernel_rfl) (by kernel_rfl) (fun _ _ _ h => h) rfl ?_
        simp only [Act.put, List.setIfInBounds_toArray, List.set_cons_zero, List.set_cons_succ]
        refine skip_at 32 53 rfl rfl (by kernel_rfl) (by kernel_rfl) (by kernel_rfl) (fun _ _ _ h => h) rfl ?_
        simp only [Act.put, List.setIfInBounds_toArray, List.set_cons_zero, List.set_cons_succ]
        refine skip_at 33 54 rfl rfl (by kernel_rfl) (by kernel_rfl) (by kernel_rfl) (fun _ _ _ h => h) rfl ?_
        simp only [Act.put, List.setIfInBounds_toArray, List.set_cons_zero, List.set_cons_succ]
        refine skip_at 34 55 rfl rfl (by kernel_rfl) (by kernel_rfl) (by kernel_rfl) (fun _ _ _ h => h) rfl ?_
        simp only [Act.put, List.setIfInBounds_toArray, List.set_cons_zero, List.set_cons_succ]
        refine skip_at 35 56 rfl rfl (by kernel_rfl) (by kernel_rfl) (by kernel_rfl) (fun _ _ _ h => h) rfl ?_
        simp only [Act.put, List.setIfInBounds_toArray, List.set_cons_zero, List.set_cons_succ]
        refine skip_at 36 57 rfl rfl (by kernel_rfl) (by kernel_rfl) (by kernel_rfl) (fun _ _ _ h => h) rfl ?_
        simp only [Act.put, List.setIfInBounds_toArray, List.set_cons_zero, List.set_cons_succ]
        refine skip_at 37 58 rfl rfl (by kernel_rfl) (by kernel_rfl) (by kernel_rfl) (fun _ _ _ h => h) rfl ?_
        simp only [Act.put, List.setIfInBounds_toArray, List.set_cons_zero, List.set_cons_succ]
        refine skip_at 38 59 rfl rfl (by kernel_rfl) (by kernel_rfl) (by kernel_rfl) (fun _ _ _ h => h) rfl ?_
        simp only [Act.put, List.setIfInBounds_toArray, List.set_cons_zero, List.set_cons_succ]
        refine skip_at 39 60 rfl rfl (by kernel_rfl) (by kernel_rfl) (by kernel_rfl) (fun _ _ _ h => h) rfl ?_
        simp only [Act.put, List.setIfInBounds_toArray, List.set_cons_zero, List.set_cons_succ]
        refine skip_at 40 61 rfl rfl (by kernel_rfl) (by kernel_rfl) (by kernel_rfl) (fun _ _ _ h => h) rfl ?_
        simp only [Act.put, List.setIfInBounds_toArray, List.set_cons_zero, List.set_cons_succ]
        refine skip_at 41 62 rfl rfl (by kernel_rfl) (by kernel_rfl) (by kernel_rfl) (fun _ _ _ h => h) rfl ?_
        simp only [Act.put, List.setIfInBounds_toArray, List.set_cons_zero, List.set_cons_succ]
        refine skip_at 42 63 rfl rfl (by kernel_rfl) (by kernel_rfl) (by kernel_rfl) (fun _ _ _ h => h) rfl ?_
        simp only [Act.put, List.setIfInBounds_toArray, List.set_cons_zero, List.set_cons_succ]
        refine take_at 43 64 rfl rfl (by kernel_rfl) (by kernel_rfl) (by kernel_rfl) (fun _ _ _ h => h) rfl (fun wq => by go_simp; first | done | with_reducible rfl) ?_
        simp only [Act.put, List.setIfInBounds_toArray, List.set_cons_zero, List.set_cons_succ]
        refine take_at 44 65 rfl rfl (by kernel_rfl) (by kernel_rfl) (by kernel_rfl) (fun _ _ _ h => h) rfl (fun wq => by go_simp; first | done | with_reducible rfl) ?_
        simp only [Act.put, List.setIfInBounds_toArray, List.set_cons_zero, List.set_cons_succ]
        refine wpAny_done (by kernel_rfl) ?_ _
        have hb4 : Below w.heap.size w wu := below_step (below_step (below_step (below_step (below_drewN hb 1) (Nat.le_refl _) hnewm) (Nat.le_refl _) hnews) (Nat.le_refl _) hnewt) (Nat.le_refl _) hnewu
        clear hnewm hnews hnewt hnewu hp hp1 hp2 hp3 hp4 hb hh1 hh2
        have hne : ((k : Int) == (k : Int)) = true := by simp
        go_wp2_with fail
        refine (works_any _).mono ?_
        rintro e wv ⟨rfl, hb5⟩
        go_wp2
        go_ret
        exact ⟨rfl, below_step hb4 (Nat.le_refl _) hb5⟩

end Go.Proofs.Ytnacjcgnkepacaa
