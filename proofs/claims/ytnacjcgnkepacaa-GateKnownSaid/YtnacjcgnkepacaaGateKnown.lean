/- The walk of chapter 21's closed law GateKnown: it answers true. -/
import Derived.Test.YtnacjcgnkepacaaGateApart
namespace Go.Proofs.Ytnacjcgnkepacaa
open Go.RowKit
set_option linter.unusedVariables false
set_option linter.unusedSimpArgs false

/-- The mask after the first k channels were stopped. -/
def msk : Nat → Nat
  | 0 => 0
  | k + 1 => gset (msk k) k true
theorem may_set (S k : Nat) (hk : k ≤ 255) : gmay (gset S k true) false k = ((k : Int) == 0) := by
  unfold gmay
  by_cases h0 : k = 0
  · subst h0; rfl
  · have hb : ((k : Int) == 0) = false := by rw [beq_eq_false_iff_ne]; omega
    rw [hb]
    by_cases h6 : k ≤ 63
    · rw [gset_test S k k true (by omega), if_pos (by omega)]; simp [h0]
    · simp [h0, h6]
theorem msk_end : (stops (msk 256) 64).length = 63 := by decide +kernel

theorem rows6 (w : World) (k : Nat) (hk : k ≤ 255) : CallsAt (w.alloc (.cells #[.bool false, .int .u8 (k : Int), .bool true, .bool true, .int .u8 0, .bool false, .bool false, .int .u8 63, .bool true, .bool true, .int .u8 0, .bool true, .bool false, .int .u8 (k : Int), .bool false, .bool false, .int .u8 ((k : Int) / 2), .bool true] 35))
    (some ⟨w.heap.size, 0, none⟩) 6 [(false, k, true), (true, 0, false), (false, 63, true), (true, 0, true), (false, k, false), (false, k / 2, true)] := by
  refine ⟨rfl, ?_, fun _ => ⟨w.heap.size, 0, rfl, by simp, fun i hi => ?_⟩⟩
  · intro c hc
    simp only [List.mem_cons, List.not_mem_nil, or_false] at hc
    rcases hc with rfl | rfl | rfl | rfl | rfl | rfl <;> dsimp only <;> omega
  · simp only [World.cell?_alloc_new]
    match i, hi with
    | 0, _ => exact ⟨rfl, rfl, rfl⟩
    | 1, _ => exact ⟨rfl, rfl, rfl⟩
    | 2, _ => exact ⟨rfl, rfl, rfl⟩
    | 3, _ => exact ⟨rfl, rfl, rfl⟩
    | 4, _ => exact ⟨rfl, rfl, rfl⟩
    | 5, _ => exact ⟨rfl, rfl, rfl⟩
theorem rows3 (w : World) (k : Nat) (y z : Bool) (hk : k ≤ 255) : CallsAt (w.alloc (.cells #[.bool false, .int .u8 (k : Int), .bool y, .bool false, .int .u8 7, .bool true, .bool true, .int .u8 9, .bool z] 35))
    (some ⟨w.heap.size, 0, none⟩) 3 [(false, k, y), (false, 7, true), (true, 9, z)] := by
  refine ⟨rfl, ?_, fun _ => ⟨w.heap.size, 0, rfl, by simp, fun i hi => ?_⟩⟩
  · intro c hc
    simp only [List.mem_cons, List.not_mem_nil, or_false] at hc
    rcases hc with rfl | rfl | rfl <;> dsimp only <;> omega
  · simp only [World.cell?_alloc_new]
    match i, hi with
    | 0, _ => exact ⟨rfl, rfl, rfl⟩
    | 1, _ => exact ⟨rfl, rfl, rfl⟩
    | 2, _ => exact ⟨rfl, rfl, rfl⟩

set_option maxHeartbeats 4000000 in
set_option maxRecDepth 100000 in
theorem gateKnown_any (w : World) :
    Calls Try.prog 6 #[] w fun e w' => e = .returned (.bool true) ∧ Below w.heap.size w w' := by
  go_enter Try.func6, Try.ntmps6
  go_wp2_with fail
  refine (gnew_any _).mono ?_
  rintro e w1 ⟨rfl, hw1⟩
  have hg1 := gate_new w
  rw [← hw1] at hg1
  have hb1 : Below w.heap.size w w1 := by rw [hw1]; exact (Below.refl _ _).alloc (Nat.le_refl _) _
  have hz1 : w.heap.size + 1 ≤ w1.heap.size := by rw [hw1]; simp
  clear hw1
  have HGG := hide (show ∀ j, some w.heap.size = some j → w.heap.size ≤ j from fun j hj => by simp at hj; omega)
  go_wp2_with fail
  go_loopw [2] (fun i wr => ∃ (k : Nat), k ≤ 256 ∧ i = .int .i64 k ∧ GateAt wr w.heap.size (msk k) false ∧ Below w.heap.size w wr) (fun i _ => 256 - (intOf i).toNat)
  case atStart => exact ⟨0, by omega, rfl, hg1, hb1⟩
  case round =>
    clear hg1 hb1 hz1
    obtain ⟨k, hk, rfl, hg, hb⟩ := hrel
    by_cases hlt : k < 256
    · go_wp2_with fail
      refine (gstop_any w.heap.size (msk k) k false true _ hg (by omega)).mono ?_
      rintro e w3 ⟨rfl, g1, g2⟩
      have hb3 : Below w.heap.size w w3 := hb.grown g2 hb.size HGG.out
      clear hg hb g2
      go_wp2_with fail
      refine (gmay_still w.heap.size _ k false _ g1 (by omega)).mono ?_
      rw [may_set _ _ (by omega)]
      rintro e w4 ⟨rfl, hs4⟩
      replace g1 := g1.still hs4
      replace hb3 := Below.still hb3 hs4
      clear hs4
      go_wp2_with fail
      refine (gatePlays_any _ 6 6 _ (k : Int) _ (rows6 _ k (by omega)) (by omega) (by omega) (by omega)).mono ?_
      rintro e w5 ⟨rfl, hn5⟩
      replace g1 := (g1.below ((Below.refl _ _).alloc (Nat.le_refl _) _)).below hn5
      replace hb3 : Below w.heap.size w w5 := below_step (hb3.alloc hb3.size _) (by simp) hn5
      clear hn5
      go_wp2_with fail
      refine (gateApart_any _ 3 3 _ 7 _ (rows3 _ k _ _ (by omega)) (by omega) (by omega) (by omega)).mono ?_
      rintro e w6 ⟨rfl, hn6⟩
      replace g1 := (g1.below ((Below.refl _ _).alloc (Nat.le_refl _) _)).below hn6
      replace hb3 : Below w.heap.size w w6 := below_step (hb3.alloc hb3.size _) (by simp) hn6
      clear hn6
      go_wp2_with fail
      refine (gateNone_any (k : Int) _ _ (by omega) (by omega)).mono ?_
      rintro e w7 ⟨rfl, hn7⟩
      replace g1 := g1.below hn7
      replace hb3 : Below w.heap.size w w7 := below_step hb3 (Nat.le_refl _) hn7
      clear hn7
      go_wp2
      go_roundw
      case rel => exact ⟨k + 1, by omega, by go_num, g1, hb3⟩
      case measure => simp [intOf]; omega
    · obtain rfl : k = 256 := by omega
      have hne := hide msk_end
      go_wp2_with fail
      refine (gstopped_any w.heap.size (msk 256) false _ hg).mono ?_
      rw [msk_end]
      rintro e w3 ⟨v, rfl, hown, hb3⟩
      obtain ⟨a, c, rfl, hh⟩ := ownsRow_holds rfl hown
      clear hown hh
      replace hg := hg.below hb3
      replace hb := below_step hb (Nat.le_refl _) hb3
      clear hb3
      go_wp2_with fail
      refine (gopen_any w.heap.size _ _ _ hg).mono ?_
      rintro e w' ⟨rfl, rfl⟩
      go_wp2_with fail
      refine (works_any _).mono ?_
      rintro e w5 ⟨rfl, hb5⟩
      go_wp2
      go_ret
      exact ⟨rfl, below_step hb (Nat.le_refl _) hb5⟩

end Go.Proofs.Ytnacjcgnkepacaa
