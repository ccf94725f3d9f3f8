/- A gate and its reference go together; 'same' of two equal rows; what a row of Calls that came in holds; chapter 21's examples. -/
import Derived.Test.YtnacjcgnkepacaaGateRef
namespace Go.Proofs.Ytnacjcgnkepacaa
open Go.RowKit
set_option linter.unusedVariables false
set_option linter.unusedSimpArgs false

/-- A gate and the words that were told to both. -/
structure Sim (S : Nat) (C : Bool) (l : List (Nat × Bool)) : Prop where
  open_ : (!C) = lastW l 0 true
  stop : ∀ d, 1 ≤ d → d ≤ 63 → S.testBit d = lastW l d false
theorem Sim.start : Sim 0 false [] := ⟨rfl, fun d _ _ => by rw [Nat.zero_testBit]; rfl⟩
theorem Sim.may {S : Nat} {C : Bool} {l : List (Nat × Bool)} (h : Sim S C l) (d : Nat) : gmay S C d = rmay l d := by
  unfold gmay rmay
  by_cases h0 : d = 0
  · subst h0; rfl
  · by_cases h63 : d ≤ 63
    · rw [h.stop d (by omega) h63, h.open_]
      cases lastW l 0 true <;> cases lastW l d false <;> simp [h63]
    · have : decide (d ≤ 63) = false := by rw [decide_eq_false_iff_not]; exact h63
      rw [this]; simp
theorem Sim.stops {S : Nat} {C : Bool} {l : List (Nat × Bool)} (h : Sim S C l) : stops S 64 = rstops l 64 := by
  unfold Proofs.Ytnacjcgnkepacaa.stops rstops
  congr 1
  apply List.filter_congr
  intro d hd
  rw [List.mem_range] at hd
  by_cases h0 : 1 ≤ d
  · rw [h.stop d h0 (by omega)]
    simp [h0]; omega
  · simp [h0]
theorem Sim.all {S : Nat} {C : Bool} {l : List (Nat × Bool)} (h : Sim S C l) (y : Bool) : Sim S (!y) (l ++ [(0, y)]) :=
  ⟨by rw [lastW_snoc, if_pos rfl, Bool.not_not], fun d h1 h2 => by rw [lastW_snoc, if_neg (by show ¬ 0 = d; omega)]; exact h.stop d h1 h2⟩
theorem Sim.stopped {S : Nat} {C : Bool} {l : List (Nat × Bool)} (h : Sim S C l) (d : Nat) (y : Bool) : Sim (gset S d y) C (rwords l d y) := by
  unfold rwords
  refine ⟨?_, fun e h1 h2 => ?_⟩
  · rw [h.open_]
    split
    · rw [lastW_snoc, if_neg (by show ¬ d = 0; omega)]
    · rfl
  · rw [gset_test _ _ _ _ (by omega)]
    by_cases hd : 1 ≤ d ∧ d ≤ 63
    · rw [if_pos hd, lastW_snoc]
      by_cases he : d = e
      · subst he; rw [if_pos (by omega), if_pos rfl]
      · rw [if_neg (by omega), if_neg he]; exact h.stop e h1 h2
    · rw [if_neg hd, if_neg (by omega)]; exact h.stop e h1 h2
def WL (l : List (Nat × Bool)) : Prop := ∀ p ∈ l, p.1 ≤ 255
theorem WL.snoc {l : List (Nat × Bool)} (h : WL l) (d : Nat) (y : Bool) (hd : d ≤ 255) : WL (l ++ [(d, y)]) := by
  intro p hp
  rcases List.mem_append.1 hp with h1 | h1
  · exact h p h1
  · simp at h1; subst h1; exact hd
theorem WL.words {l : List (Nat × Bool)} (h : WL l) (d : Nat) (y : Bool) (hd : d ≤ 255) : WL (rwords l d y) ∧ (rwords l d y).length ≤ l.length + 1 := by
  unfold rwords
  split
  · exact ⟨h.snoc d y hd, by simp⟩
  · exact ⟨h, by omega⟩

set_option maxHeartbeats 400000 in
theorem same_any (a1 a2 : Option Addr) (n c1 c2 : Nat) (l : List Int) (w : World) (hn : n ≤ 1000000) (h1 : Holds8 w a1 n l) (h2 : Holds8 w a2 n l) :
    Calls Try.prog 13 #[.slice a1 n c1, .slice a2 n c2] w fun e w' => e = .returned (.bool true) ∧ Still w w' := by
  have H1 := hide h1
  have H2 := hide h2
  clear h1 h2
  go_enter Try.func13, Try.ntmps13
  go_wp2
  go_loopw [5] (fun i wr => ∃ k m : Nat, k ≤ n ∧ i = .int .i64 k ∧ wr = w.drewN m) (fun i _ => n - (intOf i).toNat)
  case atStart => exact ⟨0, 0, by omega, rfl, rfl⟩
  case round =>
    obtain ⟨k, m, hk, rfl, rfl⟩ := hrel
    by_cases hlt : k < n
    · obtain ⟨g1, o1, rfl, _, hg1⟩ := H1.out (by omega)
      obtain ⟨g2, o2, rfl, _, hg2⟩ := H2.out (by omega)
      have hc1 := hg1 k hlt
      have hc2 := hg2 k hlt
      clear hg1 hg2
      go_wp2
      go_quiet (fail)
      go_wp2
      go_roundw
      case rel => exact ⟨k + 1, _, by omega, by go_num, rfl⟩
      case measure => simp [intOf]; omega
    · go_wp2
      go_ret
      exact ⟨rfl, _, rfl⟩

/-- A row of Calls that came in: of each, All, the channel, Yes. -/
def CallsAt (w : World) (a : Option Addr) (n : Nat) (cs : List (Bool × Nat × Bool)) : Prop :=
  cs.length = n ∧ (∀ c ∈ cs, c.2.1 ≤ 255) ∧ (0 < n → ∃ b o, a = some ⟨b, o, none⟩ ∧ b < w.heap.size ∧ ∀ i, (hi : i < cs.length) →
    w.cell? ⟨b, o + i * 3, none⟩ = some (.bool cs[i].1) ∧ w.cell? ⟨b, o + i * 3 + 1, none⟩ = some (.int .u8 (cs[i].2.1 : Nat)) ∧ w.cell? ⟨b, o + i * 3 + 2, none⟩ = some (.bool cs[i].2.2))

set_option maxHeartbeats 1000000 in
theorem works_any (w : World) :
    Calls Try.prog 7 #[] w fun e w' => e = .returned (.bool true) ∧ Below w.heap.size w w' := by
  have e1 : gmay (gset 0 5 true) false 5 = false := by decide
  have e2 : gmay (gset 0 5 true) false 6 = true := by decide
  have e3 : gmay (gset 0 5 true) false 0 = true := by decide
  have e4 : gmay (gset 0 5 true) (!false) 6 = false := by decide
  have e5 : gmay (gset 0 5 true) (!false) 0 = true := by decide
  have e6 : gmay (gset 0 5 true) (!true) 6 = true := by decide
  have e7 : stops (gset 0 5 true) 64 = [5] := by decide
  obtain ⟨S, hS⟩ : ∃ S, gset 0 5 true = S := ⟨_, rfl⟩
  rw [hS] at e1 e2 e3 e4 e5 e6 e7
  have HE := hide (And.intro e1 (And.intro e2 (And.intro e3 (And.intro e4 (And.intro e5 (And.intro e6 e7))))))
  clear e1 e2 e3 e4 e5 e6 e7
  go_enter Try.func7, Try.ntmps7
  go_wp2_with fail
  refine (gnew_any _).mono ?_
  rintro e w1 ⟨rfl, hw1⟩
  have hg1 := gate_new w
  have hb1 : Below w.heap.size w w1 := by rw [hw1]; exact (Below.refl _ _).alloc (Nat.le_refl _) _
  rw [← hw1] at hg1
  clear hw1
  go_wp2_with fail
  refine (gstop_any w.heap.size 0 5 false true _ hg1 (by omega)).mono ?_
  rw [hS]
  rintro e w2 ⟨rfl, hg2, hgr2⟩
  have hb2 : Below w.heap.size w w2 := hb1.grown hgr2 hb1.size (fun k hk => by simp at hk; omega)
  clear hg1 hb1 hgr2
  go_wp2_with fail
  refine (gmay_still w.heap.size S 5 false _ hg2 (by omega)).mono ?_
  rw [HE.out.1]
  rintro e w3 ⟨rfl, hs3⟩
  have hg3 := hg2.still hs3
  have hb3 := Below.still hb2 hs3
  clear hg2 hb2 hs3
  go_wp2_with fail
  refine (gmay_still w.heap.size S 6 false _ hg3 (by omega)).mono ?_
  rw [HE.out.2.1]
  rintro e w4 ⟨rfl, hs4⟩
  have hg4 := hg3.still hs4
  have hb4 := Below.still hb3 hs4
  clear hg3 hb3 hs4
  go_wp2_with fail
  refine (gmay_still w.heap.size S 0 false _ hg4 (by omega)).mono ?_
  rw [HE.out.2.2.1]
  rintro e w5 ⟨rfl, hs5⟩
  have hg5 := hg4.still hs5
  have hb5 := Below.still hb4 hs5
  clear hg4 hb4 hs5
  go_wp2_with fail
  refine (gall_any w.heap.size S false false _ hg5).mono ?_
  rintro e w6 ⟨rfl, hg6, hgr6⟩
  have hb6 : Below w.heap.size w w6 := hb5.grown hgr6 hb5.size (fun k hk => by simp at hk; omega)
  clear hg5 hb5 hgr6
  go_wp2_with fail
  refine (gmay_still w.heap.size S 6 _ _ hg6 (by omega)).mono ?_
  rw [HE.out.2.2.2.1]
  rintro e w7 ⟨rfl, hs7⟩
  have hg7 := hg6.still hs7
  have hb7 := Below.still hb6 hs7
  clear hg6 hb6 hs7
  go_wp2_with fail
  refine (gmay_still w.heap.size S 0 _ _ hg7 (by omega)).mono ?_
  rw [HE.out.2.2.2.2.1]
  rintro e w8 ⟨rfl, hs8⟩
  have hg8 := hg7.still hs8
  have hb8 := Below.still hb7 hs8
  clear hg7 hb7 hs8
  go_wp2_with fail
  refine (gopen_any w.heap.size S _ _ hg8).mono ?_
  rintro e w' ⟨rfl, rfl⟩
  go_wp2_with fail
  refine (gall_any w.heap.size S _ true _ hg8).mono ?_
  rintro e w9 ⟨rfl, hg9, hgr9⟩
  have hb9 : Below w.heap.size w w9 := hb8.grown hgr9 hb8.size (fun k hk => by simp at hk; omega)
  clear hg8 hb8 hgr9
  go_wp2_with fail
  refine (gmay_still w.heap.size S 6 _ _ hg9 (by omega)).mono ?_
  rw [HE.out.2.2.2.2.2.1]
  rintro e w10 ⟨rfl, hs10⟩
  have hg10 := hg9.still hs10
  have hb10 := Below.still hb9 hs10
  clear hg9 hb9 hs10
  go_wp2_with fail
  refine (gstopped_any w.heap.size S _ _ hg10).mono ?_
  rw [HE.out.2.2.2.2.2.2]
  rintro e w11 ⟨v, rfl, hown, hb11⟩
  have hb12 : Below w.heap.size w w11 := below_step hb10 (Nat.le_refl _) hb11
  obtain ⟨ad, c, rfl, hh⟩ := ownsRow_holds (l := [5]) (n := 1) rfl hown
  clear hg10 hb10 hb11 hown
  go_wp2_with fail
  refine (same_any _ _ 1 _ _ [5] _ (by omega) (hh.alloc _) (holds8_new _ _ _ _ _ rfl rfl)).mono ?_
  rintro e w13 ⟨rfl, hs⟩
  go_wp2
  go_ret
  exact ⟨rfl, Below.still (hb12.alloc hb12.size _) hs⟩

end Go.Proofs.Ytnacjcgnkepacaa
