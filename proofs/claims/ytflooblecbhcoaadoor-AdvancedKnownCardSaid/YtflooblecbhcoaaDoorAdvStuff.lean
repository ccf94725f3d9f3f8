/- The law AdvancedStuff: what is written and read of any octets. -/
import Derived.Test.YtflooblecbhcoaaDoorAdvLaw
namespace Go.Proofs.YtflooblecbhcoaaDoor
open Go.RowKit
set_option linter.unusedVariables false
set_option linter.unusedSimpArgs false

/-- What is written: its size, no flag in it, and it is read as it was. -/
theorem stuff_form (s : ByteArray) : ∃ x : ByteArray, st (stuff (bl s)) = x ∧ x.size ≤ 2 * s.size ∧ (∀ j (h : j < x.size), ((x[j].toNat : Int) == 126) = false) ∧ unR x = .returned (.tuple #[.string s, .bool true]) := by
  have hb : bl (st (stuff (bl s))) = stuff (bl s) := bl_st (stuff_bytes (bl_bytes s))
  refine ⟨_, rfl, ?_, ?_, ?_⟩
  · rw [st_size]
    have := (stuff_length (bl s)).2
    rw [bl_length] at this
    exact this
  · intro j h
    rw [beq_eq_false_iff_ne]
    intro e
    have h1 : (bl (st (stuff (bl s)))).getD j 0 = 126 := by rw [bl_getD _ j h]; omega
    rw [hb] at h1
    have h2 : j < (stuff (bl s)).length := by rw [st_size] at h; exact h
    rw [List.getD_eq_getElem?_getD, List.getElem?_eq_getElem h2, Option.getD_some] at h1
    exact stuff_clean (bl s) (h1 ▸ List.getElem_mem h2)
  · rw [unR_some (m := bl s) (by rw [hb]; exact unst_stuff _), st_bl]
/-- What is read: a text and a word; where the word is true, it is written as it was. -/
theorem unR_form (s : ByteArray) : ∃ (a : ByteArray) (ok : Bool), unR s = .returned (.tuple #[.string a, .bool ok]) ∧ a.size ≤ s.size ∧ (ok = true → st (stuff (bl a)) = s) := by
  cases hu : unst (bl s) with
  | none => exact ⟨⟨#[]⟩, false, unR_none hu, Nat.zero_le _, fun h => by cases h⟩
  | some m =>
    obtain ⟨h1, h2⟩ := stuff_of (bl_bytes s) hu
    refine ⟨st m, true, unR_some hu, ?_, fun _ => ?_⟩
    · rw [st_size]
      have := (stuff_length m).1
      rw [h1, bl_length] at this
      exact this
    · rw [bl_st h2, h1, st_bl]

set_option maxHeartbeats 2000000 in
theorem advStuff_any (s : ByteArray) (w : World) (hh : Octs w) (hf : Half w) (hs : s.size ≤ maxLen) :
    Calls Tryd.prog 5 #[.string s] w fun e w' => e = .returned (.bool true) ∧ Below w.heap.size w w' := by
  unfold maxLen at hs
  have HO := hide (fun W (hb : Below w.heap.size w W) => hh.below hb)
  have HF := hide (fun W (hb : Below w.heap.size w W) => hf.below hb)
  by_cases h600 : 600 < s.size
  · go_enter Tryd.func5, Tryd.ntmps5
    go_wp2_with fail
    refine (works_any _ hh hf).mono ?_
    rintro e w2 ⟨rfl, hb2⟩
    go_wp2
    go_ret
    exact ⟨rfl, hb2⟩
  · obtain ⟨x, hx, hxs, hxc, hxu⟩ := stuff_form s
    obtain ⟨a, ok, ha, has, hok⟩ := unR_form s
    have HX := hide hx
    have HXU := hide hxu
    have HA := hide ha
    have HC := hide hxc
    have HK := hide hok
    clear hx hxu ha hxc hok hh hf
    go_enter Tryd.func5, Tryd.ntmps5
    go_wp2_with fail
    refine (stuff_any s _ (by omega)).mono ?_
    rintro e w2 ⟨rfl, hb2⟩
    rw [HX.out]
    go_wp2_with fail
    refine (unstuff_any s _ (by omega)).mono ?_
    rintro e w3 ⟨rfl, hb3⟩
    rw [HA.out]
    have B3 := below_step hb2 (Nat.le_refl _) hb3
    clear hb2 hb3
    go_wp2_with fail
    refine (runstuff_any s _ (by omega)).mono ?_
    rintro e w4 ⟨rfl, rfl⟩
    rw [HA.out]
    go_wp2_with fail
    refine (unstuff_any x _ (by omega)).mono ?_
    rintro e w5 ⟨rfl, hb5⟩
    rw [HXU.out]
    have B5 := below_step B3 (Nat.le_refl _) hb5
    clear B3 hb5
    go_wp2_with fail
    refine (rstuff_any s _ (by omega)).mono ?_
    rintro e w6 ⟨rfl, rfl⟩
    rw [HX.out]
    go_wp2
    go_loop [10] (fun i => ∃ k : Nat, k ≤ x.size ∧ i = .int .i64 (k : Int)) (fun i => x.size - (intOf i).toNat)
    case atStart => exact ⟨0, by omega, rfl⟩
    case round =>
      obtain ⟨k, hk, rfl⟩ := hrel
      by_cases hks : k < x.size
      · have hkk : (k : Int) < (x.size : Int) := by omega
        have t0 := HC.out k hks
        go_wp2
        go_round
        case rel => exact ⟨k + 1, hks, by go_num⟩
        case measure => simp [intOf]; omega
      · obtain rfl : k = x.size := by omega
        cases ok with
        | false =>
          go_wp2_with fail
          refine (works_any _ (HO.out _ B5) (HF.out _ B5)).mono ?_
          rintro e w7 ⟨rfl, hb7⟩
          have B7 := below_step B5 (Nat.le_refl _) hb7
          clear hb7 B5
          go_wp2
          go_ret
          exact ⟨rfl, B7⟩
        | true =>
          go_wp2_with fail
          refine (stuff_any a _ (by omega)).mono ?_
          rintro e w6 ⟨rfl, hb6⟩
          rw [HK.out (by simp)]
          have B6 := below_step B5 (Nat.le_refl _) hb6
          clear hb6 B5
          go_wp2_with fail
          refine (works_any _ (HO.out _ B6) (HF.out _ B6)).mono ?_
          rintro e w7 ⟨rfl, hb7⟩
          have B7 := below_step B6 (Nat.le_refl _) hb7
          clear hb7 B6
          go_wp2
          go_ret
          exact ⟨rfl, B7⟩

end Go.Proofs.YtflooblecbhcoaaDoor
