/- The walks of package gate: what each call answers and does. -/
import Derived.Test.YtnacjcgnkepacaaBase
import Derived.Test.YtnacjcgnkepacaaGatePlain
import Derived.StillTailTactics
import Derived.Deep.RegionHeld3
import Derived.Deep.RegionWith
import Derived.ChangeAlike
namespace Go.Proofs.Ytnacjcgnkepacaa
open Go.RowKit
set_option linter.unusedVariables false
set_option linter.unusedSimpArgs false

set_option maxHeartbeats 400000 in
theorem bit_any (d : Nat) (w : World) (h : d ≤ 255) :
    Calls Try.prog 21 #[.int .u8 (d : Int)] w fun e w' => e = .returned (.int .u64 (gbit d : Nat)) ∧ w = w' := by
  by_cases hd : 63 < d
  · have hg : gbit d = 0 := by unfold gbit; rw [if_neg (by omega)]
    go_enter Try.func21, Try.ntmps21
    go_wp2
    go_ret
    exact ⟨by rw [hg]; rfl, rfl⟩
  · have hp : ∀ d, d < 64 → bits .andNot .u64 (IntKind.u64.wrap (2 ^ d)) 1 = (gbit d : Nat) := by decide
    have hb := hp d (by omega)
    clear hp
    go_enter Try.func21, Try.ntmps21
    go_wp2
    go_ret
    exact ⟨rfl, rfl⟩

/-- A gate that lies in a block. -/
structure GateAt (w : World) (b : Nat) (S : Nat) (C : Bool) : Prop where
  c0 : w.cell? ⟨b, 0, none⟩ = some (.int .u64 (S : Int))
  c1 : w.cell? ⟨b, 1, none⟩ = some (.bool C)
  f0 : w.frozen? ⟨b, 0, none⟩ = false
  f1 : w.frozen? ⟨b, 1, none⟩ = false
  lt : S < 18446744073709551616
theorem GateAt.block {w : World} {b S : Nat} {C : Bool} (h : GateAt w b S C) : b < w.heap.size := World.block_lt_of_cell? w ⟨b, 0, none⟩ h.c0
theorem GateAt.drewN {w : World} {b S : Nat} {C : Bool} (h : GateAt w b S C) (n : Nat) : GateAt (w.drewN n) b S C := ⟨h.c0, h.c1, h.f0, h.f1, h.lt⟩
theorem GateAt.keep {w w' : World} {b S : Nat} {C : Bool} (h : GateAt w b S C) (hb : w'.heap[b]? = w.heap[b]?) : GateAt w' b S C :=
  ⟨by rw [World.cell?_of_block (w := w) (a := ⟨b, 0, none⟩) hb]; exact h.c0, by rw [World.cell?_of_block (w := w) (a := ⟨b, 1, none⟩) hb]; exact h.c1,
   by rw [World.frozen?_of_block (w := w) (a := ⟨b, 0, none⟩) hb]; exact h.f0, by rw [World.frozen?_of_block (w := w) (a := ⟨b, 1, none⟩) hb]; exact h.f1, h.lt⟩
theorem GateAt.below {w w' : World} {b S : Nat} {C : Bool} (h : GateAt w b S C) (hb : Below w.heap.size w w') : GateAt w' b S C := h.keep (hb.block b h.block)
theorem GateAt.other {w w' : World} {b S g : Nat} {C : Bool} (h : GateAt w b S C) (hb : w.grownBy w' (some g)) (hne : b ≠ g) : GateAt w' b S C :=
  h.keep (hb.block b h.block (by simpa using hne))

set_option maxHeartbeats 400000 in
theorem gnew_any (w : World) :
    Calls Try.prog 8 #[] w fun e w' => e = .returned (.pointer (some ⟨w.heap.size, 0, none⟩)) ∧ w' = w.alloc (.cells #[.int .u64 0, .bool false] 42) := by
  go_enter Try.func8, Try.ntmps8
  go_wp2
  go_ret
  exact ⟨rfl, rfl⟩
theorem gate_new (w : World) : GateAt (w.alloc (.cells #[.int .u64 0, .bool false] 42)) w.heap.size 0 false :=
  ⟨World.cell?_alloc_new _ _ _ _, World.cell?_alloc_new _ _ _ _, World.frozen?_alloc_at _ _ _ _ rfl, World.frozen?_alloc_at _ _ _ _ rfl, by decide⟩

set_option maxHeartbeats 400000 in
theorem gopen_any (b S : Nat) (C : Bool) (w : World) (h : GateAt w b S C) :
    Calls Try.prog 9 #[.pointer (some ⟨b, 0, none⟩)] w fun e w' => e = .returned (.bool (!C)) ∧ w = w' := by
  have h1 := h.c1
  have h2 := h.f1
  go_enter Try.func9, Try.ntmps9
  go_wp2
  go_ret
  exact ⟨rfl, rfl⟩
theorem gopen_closed (b S : Nat) (w : World) (h : GateAt w b S true) :
    Calls Try.prog 9 #[.pointer (some ⟨b, 0, none⟩)] w fun e w' => e = .returned (.bool false) ∧ w' = w := same_of (gopen_any b S true w h)
theorem gopen_opened (b S : Nat) (w : World) (h : GateAt w b S false) :
    Calls Try.prog 9 #[.pointer (some ⟨b, 0, none⟩)] w fun e w' => e = .returned (.bool true) ∧ w' = w := same_of (gopen_any b S false w h)
set_option maxHeartbeats 400000 in
theorem gopen_nil (w : World) :
    Calls Try.prog 9 #[.pointer none] w fun e w' => e = .returned (.bool false) ∧ w = w' := by
  go_enter Try.func9, Try.ntmps9
  go_wp2
  go_ret
  exact ⟨rfl, rfl⟩

/-- May, of a gate that is there. -/
def gmay (S : Nat) (C : Bool) (d : Nat) : Bool := d == 0 || (!C && (decide (d ≤ 63) && !S.testBit d))

set_option maxHeartbeats 1000000 in
theorem gmay_any (b S d : Nat) (C : Bool) (w : World) (h : GateAt w b S C) (hd : d ≤ 255) :
    Calls Try.prog 11 #[.pointer (some ⟨b, 0, none⟩), .int .u8 (d : Int)] w fun e w' => e = .returned (.bool (gmay S C d)) ∧ ∃ n, w' = w.drewN n := by
  have h0 := h.c0
  by_cases hz : d = 0
  · subst hz
    have hm : gmay S C 0 = true := by simp [gmay]
    go_enter Try.func11, Try.ntmps11
    go_wp2
    go_ret
    exact ⟨by rw [hm]; rfl, 0, rfl⟩
  · have hz2 : ((d : Int) == 0) = false := by rw [beq_eq_false_iff_ne]; omega
    cases C with
    | true =>
      have hm : gmay S true d = false := by simp [gmay]; omega
      go_enter Try.func11, Try.ntmps11
      go_wp2
      go_quiet (first | (go_at_call 9; exact Calls.quiet_of_same (gopen_closed _ _ _ (h.drewN _))) | (go_at_call 21; exact Calls.quiet_of_same (same_of (bit_any d _ hd))))
      go_wp2
      go_ret
      exact ⟨by rw [hm]; rfl, _, rfl⟩
    | false =>
      have hx := u64_andNot_nat (gbit d) S (gbit_lt d) h.lt
      have hX := gbit_andNot S d h.lt
      generalize gbit d &&& (18446744073709551615 - S) = X at hx hX
      have hm : gmay S false d = ((X : Int) != 0) := by
        rw [Bool.eq_iff_iff, bne_iff_ne]
        have h1 : gmay S false d = (decide (1 ≤ d ∧ d ≤ 63) && !S.testBit d) := by
          have e1 : (d == 0) = false := by simpa using hz
          have e2 : decide (1 ≤ d ∧ d ≤ 63) = decide (d ≤ 63) := by rw [decide_eq_decide]; omega
          simp only [gmay, e1, e2, Bool.false_or, Bool.not_false, Bool.true_and]
        rw [h1]
        constructor
        · intro h2 h3
          have h4 : X = 0 := by omega
          rw [hX, h2] at h4
          cases h4
        · intro h2
          by_cases h3 : (decide (1 ≤ d ∧ d ≤ 63) && !S.testBit d) = true
          · exact h3
          · have h4 : X = 0 := by rw [hX]; simpa using h3
            omega
      rw [hm]
      have HB := hide (fun W => bit_any d W hd)
      have HX := hide hX
      clear hX hm
      go_enter Try.func11, Try.ntmps11
      go_wp2
      go_quiet (first | (go_at_call 9; exact Calls.quiet_of_same (gopen_opened _ _ _ (h.drewN _))) | (go_at_call 21; exact Calls.quiet_of_same (same_of (HB.out _))))
      go_wp2
      go_ret
      exact ⟨rfl, _, rfl⟩

set_option maxHeartbeats 400000 in
theorem gmay_nil (d : Nat) (w : World) (hd : d ≤ 255) :
    Calls Try.prog 11 #[.pointer none, .int .u8 (d : Int)] w fun e w' => e = .returned (.bool false) ∧ ∃ n, w' = w.drewN n := by
  by_cases hz : d = 0
  · subst hz
    go_enter Try.func11, Try.ntmps11
    go_wp2
    go_ret
    exact ⟨rfl, 0, rfl⟩
  · have hz2 : ((d : Int) == 0) = false := by rw [beq_eq_false_iff_ne]; omega
    go_enter Try.func11, Try.ntmps11
    go_wp2
    go_quiet (first | (go_at_call 9; exact Calls.quiet_of_same (same_of (gopen_nil _))) | (go_at_call 21; exact Calls.quiet_of_same (same_of (bit_any d _ hd))))
    go_wp2
    go_ret
    exact ⟨rfl, _, rfl⟩

set_option maxHeartbeats 400000 in
theorem gall_any (b S : Nat) (C : Bool) (o : Bool) (w : World) (h : GateAt w b S C) :
    Calls Try.prog 16 #[.pointer (some ⟨b, 0, none⟩), .bool o] w fun e w' => e = .returned (.tuple #[]) ∧ GateAt w' b S (!o) ∧ w.grownBy w' (some b) := by
  have h1 := h.c1
  have h2 := h.f1
  go_enter Try.func16, Try.ntmps16
  go_wp2
  go_end0
  refine ⟨rfl, ⟨?_, ?_, ?_, ?_, h.lt⟩, ⟨rfl, rfl, rfl, by simp, fun k _ hk => Below.heap_setCell _ _ _ _ (fun e => hk (by rw [e]))⟩⟩
  · rw [World.cell?_setCell_other _ _ _ _ (by simp)]; exact h.c0
  · rw [World.cell?_setCell_same _ _ _ h.c1]
  · rw [World.frozen?_setCell]; exact h.f0
  · rw [World.frozen?_setCell]; exact h.f1
set_option maxHeartbeats 400000 in
theorem gall_nil (o : Bool) (w : World) :
    Calls Try.prog 16 #[.pointer none, .bool o] w fun e w' => e = .returned (.tuple #[]) ∧ w = w' := by
  go_enter Try.func16, Try.ntmps16
  go_wp2
  go_end0
  exact ⟨rfl, rfl⟩

theorem gate_set0 {w : World} {b S X : Nat} {C : Bool} (h : GateAt w b S C) (hX : X < 18446744073709551616) :
    GateAt (w.setCell ⟨b, 0, none⟩ (.int .u64 (X : Int))).drew b X C ∧ w.grownBy (w.setCell ⟨b, 0, none⟩ (.int .u64 (X : Int))).drew (some b) := by
  refine ⟨⟨?_, ?_, ?_, ?_, hX⟩, ⟨rfl, rfl, rfl, by simp, fun k _ hk => Below.heap_setCell _ _ _ _ (fun e => hk (by rw [e]))⟩⟩
  · show (w.setCell _ _).cell? _ = _
    rw [World.cell?_setCell_same _ _ _ h.c0]
  · show (w.setCell _ _).cell? _ = _
    rw [World.cell?_setCell_other _ _ _ _ (by simp)]; exact h.c1
  · show (w.setCell _ _).frozen? _ = _
    rw [World.frozen?_setCell]; exact h.f0
  · show (w.setCell _ _).frozen? _ = _
    rw [World.frozen?_setCell]; exact h.f1

set_option maxHeartbeats 1000000 in
theorem gstop_any (b S d : Nat) (C : Bool) (y : Bool) (w : World) (h : GateAt w b S C) (hd : d ≤ 255) :
    Calls Try.prog 18 #[.pointer (some ⟨b, 0, none⟩), .int .u8 (d : Int), .bool y] w fun e w' => e = .returned (.tuple #[]) ∧ GateAt w' b (gset S d y) C ∧ w.grownBy w' (some b) := by
  have h0 := h.c0
  have h2 := h.f0
  have hlt := gset_lt S d y h.lt
  cases y with
  | true =>
    have hx := u64_or_nat S (gbit d) h.lt (gbit_lt d)
    have hs : gset S d true = S ||| gbit d := rfl
    generalize S ||| gbit d = X at hx hs
    have HB := hide (fun W => bit_any d W hd)
    rw [hs] at hlt ⊢
    clear hs
    go_enter Try.func18, Try.ntmps18
    go_wp2
    go_region_with (go_at_call 21; refine (HB.out _).mono ?_; rintro e w' ⟨rfl, rfl⟩)
    all_goals
      go_wp2
      go_end0
      exact ⟨rfl, gate_set0 h hlt⟩
  | false =>
    have hx := u64_andNot_nat S (gbit d) h.lt (gbit_lt d)
    have hs : gset S d false = S &&& (18446744073709551615 - gbit d) := rfl
    generalize S &&& (18446744073709551615 - gbit d) = X at hx hs
    have HB := hide (fun W => bit_any d W hd)
    rw [hs] at hlt ⊢
    clear hs
    go_enter Try.func18, Try.ntmps18
    go_wp2
    go_region_with (go_at_call 21; refine (HB.out _).mono ?_; rintro e w' ⟨rfl, rfl⟩)
    all_goals
      go_wp2
      go_end0
      exact ⟨rfl, gate_set0 h hlt⟩
set_option maxHeartbeats 400000 in
theorem gstop_nil (d : Nat) (y : Bool) (w : World) :
    Calls Try.prog 18 #[.pointer none, .int .u8 (d : Int), .bool y] w fun e w' => e = .returned (.tuple #[]) ∧ w = w' := by
  go_enter Try.func18, Try.ntmps18
  go_wp2
  go_end0
  exact ⟨rfl, rfl⟩

/-- The channels that are stopped, of so many. -/
def stops (S : Nat) (k : Nat) : List Int := ((List.range k).filter fun d => decide (1 ≤ d ∧ d ≤ 63) && S.testBit d).map fun (d : Nat) => (d : Int)
theorem stops_zero (S : Nat) : stops S 0 = [] := rfl
theorem stops_succ (S k : Nat) : stops S (k + 1) = stops S k ++ if (decide (1 ≤ k ∧ k ≤ 63) && S.testBit k) = true then [(k : Int)] else [] := by
  unfold stops
  rw [List.range_succ, List.filter_append, List.map_append]
  congr 1
  by_cases h : (decide (1 ≤ k ∧ k ≤ 63) && S.testBit k) = true
  · rw [if_pos h, List.filter_cons_of_pos (by exact h)]; rfl
  · rw [if_neg h, List.filter_cons_of_neg (by exact h)]; rfl
theorem stops_length (S k : Nat) : (stops S k).length ≤ k := by
  unfold stops
  rw [List.length_map]
  exact Nat.le_trans (List.length_filter_le _ _) (by simp)

set_option maxHeartbeats 1000000 in
theorem gstopped_any (b S : Nat) (C : Bool) (w : World) (h : GateAt w b S C) :
    Calls Try.prog 14 #[.pointer (some ⟨b, 0, none⟩)] w fun e w' =>
      ∃ v, e = .returned v ∧ w'.ownsRow w.heap.size 5 1 v (stops S 64).length ((stops S 64).map (Value.int .u8)) ∧ Below w.heap.size w w' := by
  obtain ⟨i0, hi, hz0, hz1, hz2⟩ := info_parts u8row
  have hlt := hide h.lt
  have hbs := h.block
  go_enter Try.func14, Try.ntmps14
  go_wp2
  go_loopw [3, 8] (fun v i wr => ∃ k : Nat, k ≤ 64 ∧ i = .int .u8 k ∧ wr.ownsRow w.heap.size 5 1 v (stops S k).length ((stops S k).map (Value.int .u8)) ∧ Below w.heap.size w wr) (fun _ i _ => 64 - (intOf i).toNat)
  case atStart => exact ⟨0, by omega, rfl, World.ownsRow_nil _ _ _ _, Below.refl _ _⟩
  case round =>
    obtain ⟨k, hk, rfl, hown, hb⟩ := hrel
    have hz := hb.size
    have hgr := h.below hb
    have hc0 := hgr.c0
    have hsl := stops_length S k
    by_cases hkl : k < 64
    · have hsu := hide (stops_succ S k)
      have hx := u64_and_nat S (gbit k) hlt.out (gbit_lt k)
      have hX := and_gbit S k
      have HB := hide (fun W => bit_any k W (by omega))
      generalize S &&& gbit k = X at hx hX
      by_cases hp : (decide (1 ≤ k ∧ k ≤ 63) && S.testBit k) = true
      · have ht : ((X : Int) != 0) = true := by
          rw [bne_iff_ne]; intro h3
          have h4 : X = 0 := by omega
          rw [hX, hp] at h4; cases h4
        have HP := hide hp
        clear hX hp
        go_wp2
        go_quiet ((go_at_call 21; exact Calls.quiet_of_same (same_of (HB.out _))))
        go_wp2_with (at_builtin; refine wpList_append_own _ rfl _ _ 32 rfl w.heap.size 5 i0 (.int .u8 0) 1 1 Try.underlying32 hi hz0 hz1 hz2 rfl (by decide) _ _ _ rfl (World.ownsRow.alloc (w := wr.drewN _) hown _) ⟨wr.heap.size, 0, none⟩ 1 1 [.int .u8 (k : Int)] rfl rfl (cell_one_new _ _ _) (by intro u hu; simp at hu; subst hu; rfl) (by unfold maxLen; omega) (by omega) (by simp; omega) ?_)
        intro v' w1 hown' hgrow _
        have e1 : stops S (k + 1) = stops S k ++ [(k : Int)] := by rw [hsu.out, if_pos HP.out]
        have hown2 : w1.ownsRow w.heap.size 5 1 v' (stops S (k + 1)).length ((stops S (k + 1)).map (Value.int .u8)) := by
          rw [e1]; simpa using hown'
        have hb2 : Below w.heap.size w w1 := ((below_drewN hb _).alloc hz _).grown hgrow (by simp; omega) (fun j hj => (hown.lt j hj).1)
        have E1 := hide e1
        clear hown' hgrow hown hb e1
        go_wp2
        go_roundw
        case rel => exact ⟨k + 1, by omega, by go_num, hown2, hb2⟩
        case measure => simp [intOf]; omega
      · have ht : ((X : Int) != 0) = false := by
          rw [bne_eq_false_iff_eq]
          have h4 : X = 0 := by rw [hX]; simpa using hp
          omega
        have HP := hide hp
        clear hX hp
        go_wp2
        go_quiet ((go_at_call 21; exact Calls.quiet_of_same (same_of (HB.out _))))
        go_wp2
        go_roundw
        case rel => exact ⟨k + 1, by omega, by go_num, by rw [hsu.out, if_neg HP.out, List.append_nil]; exact hown, below_drewN hb _⟩
        case measure => simp [intOf]; omega
    · obtain rfl : k = 64 := by omega
      go_wp2
      go_ret
      exact ⟨_, rfl, hown, hb⟩

end Go.Proofs.Ytnacjcgnkepacaa
