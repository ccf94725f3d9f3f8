/- The walk of chapter 01's closed law FcsKnown: loops over the other laws' walks. -/
import Derived.Test.YtphmikaeenkdoaaDoorFcsBits
namespace Go.Proofs.YtphmikaeenkdoaaDoor
open Go.RowKit
set_option linter.unusedVariables false
set_option linter.unusedSimpArgs false

/-- The numbers that are tried of Mend. -/
def knownInts : List Int := [-9223372036854775808, -1, 0, 7, 8, 23, 24, 9223372036854775807]
theorem knownInts_bd : ∀ j, j < 8 → -9223372036854775808 ≤ knownInts.getD j 0 ∧ knownInts.getD j 0 ≤ 9223372036854775807 := by decide

set_option maxHeartbeats 2000000 in
set_option maxRecDepth 100000 in
theorem fcsKnown_any (w : World) (hh : Half w) :
    Calls Tryd.prog 9 #[] w fun e w' => e = .returned (.bool true) ∧ Below w.heap.size w w' := by
  go_enter Tryd.func9, Tryd.ntmps9
  go_wp2
  go_loopw [1] (fun t wr => ∃ k : Nat, k ≤ 256 ∧ t = .int .i64 k ∧ Below w.heap.size w wr) (fun t _ => 256 - (intOf t).toNat)
  case atStart => exact ⟨0, by omega, rfl, Below.refl _ _⟩
  case round =>
    obtain ⟨r, hr, rfl, hb⟩ := hrel
    obtain ⟨wa, rfl⟩ : ∃ wo : World, wo = wr := ⟨_, rfl⟩
    by_cases hlr : r < 256
    · have hd : decide ((r : Int) < 256) = true := by rw [decide_eq_true_eq]; omega
      have hr256 : (r : Int) % 256 = (r : Int) := by omega
      have hr65 : IntKind.u16.wrap (r : Int) = (r : Int) := by rw [IntKind.wrap_u16]; omega
      have hr65' : IntKind.u16.wrap ((r : Int) * 7) = (r : Int) * 7 := by rw [IntKind.wrap_u16]; omega
      go_wp2
      go_loopw [2] (fun t wr => ∃ k : Nat, k ≤ 260 ∧ t = .int .i64 k ∧ Below w.heap.size w wr) (fun t _ => 260 - (intOf t).toNat)
      case atStart => exact ⟨0, by omega, rfl, hb⟩
      case round =>
        clear hb
        obtain ⟨b, hbb, rfl, hb⟩ := hrel
        obtain ⟨wb, rfl⟩ : ∃ wo : World, wo = wr := ⟨_, rfl⟩
        by_cases hlb : b < 256
        · have hb256 : (b : Int) % 256 = (b : Int) := by omega
          go_wp2_with fail
          refine (fcsStep_any _ _ _ (hh.below hb) (by omega) (by omega) (by omega) (by omega)).mono ?_
          rintro e w1 ⟨rfl, hb1⟩
          have hb2 : Below w.heap.size w w1 := below_step hb (Nat.le_refl _) hb1
          clear hb hb1
          go_wp2
          go_roundw
          case rel => exact ⟨b + 1 + r % 3, by omega, by go_num, hb2⟩
          case measure => simp [intOf]; omega
        · have hr3 : (r : Int) ≤ 255 := by omega
          go_wp2_with fail
          have hh2 : ∀ o, Half (wb.alloc o) := fun o => (hh.below hb).below ((Below.refl _ _).alloc (Nat.le_refl _) o)
          refine (fcsSums_any _ _ (hh2 _) (by unfold maxLen; show 1 ≤ _; omega)).mono ?_
          rintro e w1 ⟨rfl, hb1⟩
          have h1 : Half w1 := (hh2 _).below hb1
          have hb2 : Below w.heap.size w w1 := below_step (hb.alloc hb.size _) (Nat.le_refl _) hb1
          clear hh2 hb hb1
          go_wp2_with fail
          refine (fcsSums_any _ _ h1 (by rw [ByteArray.size_append, ByteArray.size_append]; unfold maxLen; show 1 + 2 + 1 ≤ _; omega)).mono ?_
          rintro e w2 ⟨rfl, hb3⟩
          have h2 : Half w2 := h1.below hb3
          have hb4 : Below w.heap.size w w2 := below_step hb2 (Nat.le_refl _) hb3
          clear h1 hb2 hb3
          go_wp2_with fail
          refine (fcsGood_any _ _ _ _ h2 (by rw [ByteArray.size_append]; unfold maxLen; show 3 + 1 ≤ _; omega) (by omega) (by omega) (by omega) (by omega)).mono ?_
          rintro e w3 ⟨rfl, hb5⟩
          have h3 : Half w3 := h2.below hb5
          have hb6 : Below w.heap.size w w3 := below_step hb4 (Nat.le_refl _) hb5
          clear h2 hb4 hb5
          go_wp2_with fail
          refine (fcsNear_any _ _ _ _ _ _ _ h3 (by rw [ByteArray.size_append]; unfold maxLen; show 1 + 1 ≤ _; omega) (by unfold maxLen; show 1 ≤ _; omega) (by omega) (by omega) (by omega) (by omega) (by omega) (by omega) (by omega) (by omega)).mono ?_
          rintro e w4 ⟨rfl, hb7⟩
          have h4 : Half w4 := h3.below hb7
          have hb8 : Below w.heap.size w w4 := below_step hb6 (Nat.le_refl _) hb7
          clear h3 hb6 hb7
          go_wp2_with fail
          refine (fcsBits_any _ _ _ _ _ h4 (by rw [ByteArray.size_append]; unfold maxLen; show 1 + 2 ≤ _; omega) (by unfold maxLen; show 1 ≤ _; omega) (by omega) (by omega) (by omega) (by omega)).mono ?_
          rintro e w5 ⟨rfl, hb9⟩
          have hb10 : Below w.heap.size w w5 := below_step hb8 (Nat.le_refl _) hb9
          clear h4 hb8 hb9
          go_wp2
          go_roundw
          case rel => exact ⟨r + 1, by omega, by go_num, hb10⟩
          case measure => simp [intOf]; omega
    · go_wp2_with fail
      have hcells : ∀ j, j < 8 → (wa.alloc (.cells (knownInts.map (Value.int .i64)).toArray 3)).cell? ⟨wa.heap.size, j, none⟩ = some (.int .i64 (knownInts.getD j 0)) := by
        intro j hj
        rw [World.cell?_alloc_new]
        have : j < knownInts.length := hj
        simp [List.getD, this]
      have hcells' : ∀ ww : World, Below (wa.alloc (.cells (knownInts.map (Value.int .i64)).toArray 3)).heap.size (wa.alloc (.cells (knownInts.map (Value.int .i64)).toArray 3)) ww → ∀ j, j < 8 → ww.cell? ⟨wa.heap.size, j, none⟩ = some (.int .i64 (knownInts.getD j 0)) := by
        intro ww hw j hj
        rw [hw.cell (p := ⟨wa.heap.size, j, none⟩) (by simp)]
        exact hcells j hj
      have HC := hide hcells'
      have h0 : Below w.heap.size w (wa.alloc (.cells (knownInts.map (Value.int .i64)).toArray 3)) := hb.alloc hb.size _
      have hh0 : Half (wa.alloc (.cells (knownInts.map (Value.int .i64)).toArray 3)) := hh.below h0
      have H0 := hide h0
      have HH0 := hide hh0
      clear hcells hcells' h0 hh0 hb
      go_loopw [74] (fun t wr => ∃ k : Nat, k ≤ 8 ∧ t = .int .i64 k ∧ Below (wa.alloc (.cells (knownInts.map (Value.int .i64)).toArray 3)).heap.size (wa.alloc (.cells (knownInts.map (Value.int .i64)).toArray 3)) wr) (fun t _ => 8 - (intOf t).toNat)
      case atStart => exact ⟨0, by omega, rfl, Below.refl _ _⟩
      case round =>
        obtain ⟨k, hk, rfl, hb⟩ := hrel
        obtain ⟨wk, rfl⟩ : ∃ wo : World, wo = wr := ⟨_, rfl⟩
        have hbk : Below w.heap.size w wk := H0.out.trans (hb.mono H0.out.size)
        have hhk : Half wk := HH0.out.below hb
        by_cases hlk : k < 8
        · have hc := HC.out wk hb k hlk
          obtain ⟨hb1, hb2⟩ := knownInts_bd k hlk
          obtain ⟨z, hz⟩ : ∃ z, knownInts.getD k 0 = z := ⟨_, rfl⟩
          rw [hz] at hc hb1 hb2
          have HB := hide hb
          clear hb hz
          go_wp2_with fail
          refine (fcsMends_any _ _ _ hhk (by decide) hb1 hb2).mono ?_
          rintro e w1 ⟨rfl, hb3⟩
          have hhk1 : Half w1 := hhk.below hb3
          have hbk1 := HB.out.trans (hb3.mono HB.out.size)
          have HB1 := hide hbk1
          clear hb3 hhk hbk hbk1 HB hc
          go_wp2_with fail
          refine (fcsMends_any _ _ _ hhk1 (by decide) hb1 hb2).mono ?_
          rintro e w2 ⟨rfl, hb3⟩
          have hbk2 := HB1.out.trans (hb3.mono HB1.out.size)
          have HB2 := hide hbk2
          clear hb3 hbk2
          go_wp2
          go_roundw
          case rel => exact ⟨k + 1, by omega, by go_num, HB2.out⟩
          case measure => simp [intOf]; omega
        · clear hb
          go_wp2_with fail
          refine (fcsSums_any _ _ hhk (by decide)).mono ?_
          rintro e w1 ⟨rfl, hb1⟩
          go_wp2_with fail
          refine (works_any _ (hhk.below hb1)).mono ?_
          rintro e w2 ⟨rfl, hb2⟩
          go_wp2
          go_ret
          exact ⟨rfl, below_step (below_step hbk (Nat.le_refl _) hb1) (Nat.le_refl _) hb2⟩

end Go.Proofs.YtphmikaeenkdoaaDoor
