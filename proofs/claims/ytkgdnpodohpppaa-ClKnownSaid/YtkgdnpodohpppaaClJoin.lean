/- The walks of the joiner's Put and of its reference. -/
import Derived.Test.YtkgdnpodohpppaaClone
namespace Go.Proofs.Ytkgdnpodohpppaa
open Go.RowKit
set_option linter.unusedVariables false
set_option linter.unusedSimpArgs false

/-- A joiner that lies in a block. -/
structure JoinAt (w : World) (b : Nat) (I : Bool) : Prop where
  c0 : w.cell? ⟨b, 0, none⟩ = some (.bool I)
  f0 : w.frozen? ⟨b, 0, none⟩ = false
theorem JoinAt.block {w : World} {b : Nat} {I : Bool} (h : JoinAt w b I) : b < w.heap.size := World.block_lt_of_cell? w ⟨b, 0, none⟩ h.c0
theorem JoinAt.keep {w w' : World} {b : Nat} {I : Bool} (h : JoinAt w b I) (hb : w'.heap[b]? = w.heap[b]?) : JoinAt w' b I :=
  ⟨by rw [World.cell?_of_block (w := w) (a := ⟨b, 0, none⟩) hb]; exact h.c0, by rw [World.frozen?_of_block (w := w) (a := ⟨b, 0, none⟩) hb]; exact h.f0⟩
theorem JoinAt.below {w w' : World} {b : Nat} {I : Bool} (h : JoinAt w b I) (hb : Below w.heap.size w w') : JoinAt w' b I := h.keep (hb.block b h.block)
theorem JoinAt.other {w w' : World} {b g : Nat} {I : Bool} (h : JoinAt w b I) (hb : w.grownBy w' (some g)) (hne : b ≠ g) : JoinAt w' b I := h.keep (hb.block b h.block (by simpa using hne))

theorem JoinAt.drewN {w : World} {b : Nat} {I : Bool} (h : JoinAt w b I) (n : Nat) : JoinAt (w.drewN n) b I := ⟨h.c0, h.f0⟩
theorem grown_drewN (w : World) (n : Nat) (r : Option Nat) : w.grownBy (w.drewN n) r := ⟨rfl, rfl, rfl, Nat.le_refl _, fun _ _ _ => rfl⟩
theorem join_set {w : World} {b : Nat} {I X : Bool} (h : JoinAt w b I) :
    JoinAt (w.setCell ⟨b, 0, none⟩ (.bool X)) b X ∧ w.grownBy (w.setCell ⟨b, 0, none⟩ (.bool X)) (some b) := by
  refine ⟨⟨?_, ?_⟩, ⟨rfl, rfl, rfl, by simp, fun k _ hk => Below.heap_setCell _ _ _ _ (fun e => hk (by rw [e]))⟩⟩
  · rw [World.cell?_setCell_same _ _ _ h.c0]
  · rw [World.frozen?_setCell]; exact h.f0
theorem grown_below {a w w' : World} {b : Nat} (h : a.grownBy w (some b)) (hb : Below w.heap.size w w') : a.grownBy w' (some b) := h.trans ⟨hb.os, hb.tape, hb.output, hb.size, fun k hk _ => hb.block k hk⟩

theorem head_masks : ∀ h : Nat, h < 256 → (bits .andNot .u8 (h : Int) 192 != 1) = decide (h % 64 ≠ 1) ∧ (bits .and .u8 (h : Int) 128 != 0) = decide (128 ≤ h) ∧ (bits .and .u8 (h : Int) 64 != 0) = decide (64 ≤ h % 128) := by decide +kernel

/-- What a joiner answers. -/
def joinR (I : Bool) (s : ByteArray) : Ending :=
  if h0 : 0 < s.size then
    if s[0].toNat % 64 ≠ 1 then .returned (.tuple #[.string ⟨#[]⟩, .bool false, .int .i64 70])
    else if I = decide (128 ≤ s[0].toNat) then .returned (.tuple #[.string ⟨#[]⟩, .bool false, .int .i64 4])
    else .returned (.tuple #[.string (s.extract 1 s.size), .bool (decide (64 ≤ s[0].toNat % 128)), .int .i64 0])
  else .returned (.tuple #[.string ⟨#[]⟩, .bool false, .int .i64 70])
/-- Where it stands behind that. -/
def joinI (I : Bool) (s : ByteArray) : Bool :=
  if h0 : 0 < s.size then
    if s[0].toNat % 64 ≠ 1 then I else if I = decide (128 ≤ s[0].toNat) then I else !decide (64 ≤ s[0].toNat % 128)
  else I

set_option maxHeartbeats 4000000 in
theorem jput_any (b : Nat) (I : Bool) (s : ByteArray) (w : World) (h : JoinAt w b I) (hlim : s.size ≤ 281474976710656) :
    Calls Try.prog 13 #[.pointer (some ⟨b, 0, none⟩), .string s] w fun e w' => e = joinR I s ∧ JoinAt w' b (joinI I s) ∧ w.grownBy w' (some b) := by
  have c0 := h.c0
  have f0 := h.f0
  by_cases h0 : 0 < s.size
  · have hlt : s[0].toNat < 256 := s[0].toNat_lt
    obtain ⟨m1, m2, m3⟩ := head_masks s[0].toNat hlt
    have hne : ¬ s.toList = [] := fun e => by
      rw [Lib.toList_data] at e
      have := Lib.size_eq s
      rw [e] at this
      simp only [List.length_nil] at this
      omega
    have hem : s.toList.isEmpty = false := by cases hl : s.toList with | nil => exact absurd hl hne | cons _ _ => rfl
    by_cases hb : s[0].toNat % 64 ≠ 1
    · have hR : joinR I s = .returned (.tuple #[.string ⟨#[]⟩, .bool false, .int .i64 70]) := by unfold joinR; rw [dif_pos h0, if_pos hb]
      have hI : joinI I s = I := by unfold joinI; rw [dif_pos h0, if_pos hb]
      rw [hR, hI]
      rw [decide_eq_true hb] at m1
      clear m2 m3 hb hR hI
      go_enter Try.func13, Try.ntmps13
      go_wp2
      go_ret3
      exact ⟨rfl, h, World.grownBy.refl _ _⟩
    · by_cases hf : I = decide (128 ≤ s[0].toNat)
      · have hR : joinR I s = .returned (.tuple #[.string ⟨#[]⟩, .bool false, .int .i64 4]) := by unfold joinR; rw [dif_pos h0, if_neg hb, if_pos hf]
        have hI : joinI I s = I := by unfold joinI; rw [dif_pos h0, if_neg hb, if_pos hf]
        rw [hR, hI]
        rw [decide_eq_false hb] at m1
        rw [← hf] at m2
        clear m3 hb hf hR hI
        go_enter Try.func13, Try.ntmps13
        go_wp2_with fail
        go_quiet (fail)
        go_wp2
        go_ret3
        exact ⟨rfl, h.drewN _, grown_drewN _ _ _⟩
      · have hR : joinR I s = .returned (.tuple #[.string (s.extract 1 s.size), .bool (decide (64 ≤ s[0].toNat % 128)), .int .i64 0]) := by unfold joinR; rw [dif_pos h0, if_neg hb, if_neg hf]
        have hI : joinI I s = !decide (64 ≤ s[0].toNat % 128) := by unfold joinI; rw [dif_pos h0, if_neg hb, if_neg hf]
        rw [hR, hI]
        rw [decide_eq_false hb] at m1
        generalize decide (64 ≤ s[0].toNat % 128) = L at m3 ⊢
        obtain ⟨F, hF⟩ : ∃ F, decide (128 ≤ s[0].toNat) = F := ⟨_, rfl⟩
        rw [hF] at m2 hf
        have hIF : (I == F) = false := by cases I <;> cases F <;> simp_all
        clear hb hf hR hI hF
        go_enter Try.func13, Try.ntmps13
        go_wp2_with fail
        go_quiet (fail)
        go_wp2_with fail
        refine (clone_any _ _ (by rw [ByteArray.size_extract]; omega)).mono ?_
        rintro e w2 ⟨rfl, hb2⟩
        have hJ := join_set (X := !L) (h.drewN nq)
        go_wp2
        go_ret3
        exact ⟨rfl, hJ.1.below hb2, grown_below ((grown_drewN _ _ _).trans hJ.2) hb2⟩
  · have hs : s = ⟨#[]⟩ := by
      apply ByteArray.ext
      exact Array.eq_empty_of_size_eq_zero (by have : s.size = s.data.size := rfl; omega)
    subst hs
    have hR : joinR I ⟨#[]⟩ = .returned (.tuple #[.string ⟨#[]⟩, .bool false, .int .i64 70]) := by unfold joinR; rw [dif_neg h0]
    have hI : joinI I ⟨#[]⟩ = I := by unfold joinI; rw [dif_neg h0]
    rw [hR, hI]
    clear hR hI h0
    go_enter Try.func13, Try.ntmps13
    go_wp2
    go_ret3
    exact ⟨rfl, h, World.grownBy.refl _ _⟩

end Go.Proofs.Ytkgdnpodohpppaa
