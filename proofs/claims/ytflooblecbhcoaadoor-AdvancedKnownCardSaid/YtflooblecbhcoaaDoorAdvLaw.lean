/- Chapter 5's examples, and the walks of the laws AdvancedEncode, AdvancedDecode, AdvancedStuff. -/
import Derived.Test.YtflooblecbhcoaaDoorAdvRDec
namespace Go.Proofs.YtflooblecbhcoaaDoor
open Go.RowKit
set_option linter.unusedVariables false
set_option linter.unusedSimpArgs false

theorem decode_any (s : ByteArray) (b : Bool) (n1 : Int) (w : World) (hh : Octs w) (hf : Half w) (hs : s.size ≤ 100000) :
    Calls Tryd.prog 12 #[.string s, .bool b, .int .i64 n1] w fun e w' => e = decR s b n1 ∧ Below w.heap.size w w' := by
  cases hu : unst (bl s) with
  | none => rw [decR_none b n1 hu]; exact decode_none s b n1 w hs hu
  | some l => rw [decR_some b n1 hu]; exact decode_some s l b n1 w hh hf hs hu
theorem rdecode_any (s : ByteArray) (b : Bool) (n1 : Int) (w : World) (hs : s.size ≤ 100000) :
    Calls Tryd.prog 13 #[.string s, .bool b, .int .i64 n1] w fun e w' => e = decR s b n1 ∧ Below w.heap.size w w' := by
  cases hu : unst (bl s) with
  | none => rw [decR_none b n1 hu]; exact rdecode_none s b n1 w hs hu
  | some l => rw [decR_some b n1 hu]; exact rdecode_some s l b n1 w hs hu

/-- What Decode answers is a frame and a number. -/
theorem bad_frame (e : Int) : bad e = .returned (.tuple #[frV 0 false 0 false 0 0 ⟨#[]⟩, .int .i64 e]) := rfl
theorem decT_form (t : ByteArray) (b : Bool) (n1 : Int) : ∃ d c k p s r i e, decT t b n1 = .returned (.tuple #[frV d c k p s r i, .int .i64 e]) ∧ d ≤ 255 ∧ k ≤ 255 ∧ s ≤ 255 ∧ r ≤ 255 ∧ (e ≠ 0 → decT t b n1 = bad e) := by
  unfold decT
  have ha := oc_lt t 0
  have hc := oc_lt t 1
  have hk := gk_le (oc t 1)
  have hs := gs_le (oc t 1)
  have hr := gr_le (oc t 1) hc
  repeat' split
  all_goals first
    | exact ⟨0, false, 0, false, 0, 0, ⟨#[]⟩, _, rfl, by omega, by omega, by omega, by omega, fun _ => rfl⟩
    | exact ⟨_, _, _, _, _, _, _, 0, rfl, by omega, by omega, by omega, by omega, fun h => absurd rfl h⟩
theorem decR_form (s : ByteArray) (b : Bool) (n1 : Int) : ∃ d c k p s' r i e, decR s b n1 = .returned (.tuple #[frV d c k p s' r i, .int .i64 e]) ∧ d ≤ 255 ∧ k ≤ 255 ∧ s' ≤ 255 ∧ r ≤ 255 ∧ (e ≠ 0 → decR s b n1 = bad e) := by
  cases hu : unst (bl s) with
  | none => exact ⟨0, false, 0, false, 0, 0, ⟨#[]⟩, 40, by rw [decR_none b n1 hu]; rfl, by omega, by omega, by omega, by omega, fun _ => decR_none b n1 hu⟩
  | some l => rw [decR_some b n1 hu]; exact decT_form _ b n1
theorem encR_form (d : Nat) (c : Bool) (k : Nat) (p : Bool) (s r : Nat) (i : ByteArray) (b : Bool) (n1 : Int) : ∃ x e, encR d c k p s r i b n1 = .returned (.tuple #[.string x, .int .i64 e]) := by
  unfold encR
  split
  · exact ⟨_, _, rfl⟩
  · split <;> exact ⟨_, _, rfl⟩

abbrev ex5 : ByteArray := ⟨#[126, 7, 63, 137, 126]⟩
theorem enc5 : encR 1 true 1 true 0 0 ⟨#[]⟩ true 31 = .returned (.tuple #[.string ex5, .int .i64 0]) := by rfl
theorem dec5 : decR ⟨#[7, 63, 137]⟩ true 31 = .returned (.tuple #[frV 1 true 1 true 0 0 ⟨#[]⟩, .int .i64 0]) := by rfl
theorem un5 : unR ⟨#[125, 65]⟩ = .returned (.tuple #[.string ⟨#[]⟩, .bool false]) := unR_none (by rfl)
theorem st5 : st (stuff (bl ⟨#[126, 1, 125]⟩)) = ⟨#[125, 94, 1, 125, 93]⟩ := by rfl
theorem cut5a : ex5.extract 0 3 = ⟨#[126, 7, 63]⟩ := by rfl
theorem cut5b : ex5.extract 1 4 = ⟨#[7, 63, 137]⟩ := by rfl

theorem enc_a (w : World) (hh : Octs w) (hf : Half w) :
    Calls Tryd.prog 10 #[.agg #[.int .u8 1, .bool true, .int .u8 1, .bool true, .int .u8 0, .int .u8 0, .string ⟨#[]⟩], .bool true, .int .i64 31] w fun e w' => e = .returned (.tuple #[.string ex5, .int .i64 0]) ∧ Below w.heap.size w w' := by
  have := encode_any 1 1 0 0 true true ⟨#[]⟩ true 31 w hh hf (by omega) (by omega) (by omega) (by omega) (by decide)
  rw [enc5] at this
  exact this

set_option maxRecDepth 100000 in
set_option maxHeartbeats 4000000 in
theorem works_any (w : World) (hh : Octs w) (hf : Half w) :
    Calls Tryd.prog 9 #[] w fun e w' => e = .returned (.bool true) ∧ Below w.heap.size w w' := by
  have HO := hide (fun W (hb : Below w.heap.size w W) => hh.below hb)
  have HF := hide (fun W (hb : Below w.heap.size w W) => hf.below hb)
  clear hh hf
  have B0 := (Below.refl w.heap.size w).alloc (Nat.le_refl _) (.cells #[.int .u8 1, .bool true, .int .u8 1, .bool true, .int .u8 0, .int .u8 0, .string ⟨#[]⟩] 23)
  have F0 : FrBlk (w.alloc (.cells #[.int .u8 1, .bool true, .int .u8 1, .bool true, .int .u8 0, .int .u8 0, .string ⟨#[]⟩] 23)) w.heap.size 1 true 1 true 0 0 ⟨#[]⟩ := World.alloc_heap_new w _
  have hlt : w.heap.size < (w.alloc (.cells #[.int .u8 1, .bool true, .int .u8 1, .bool true, .int .u8 0, .int .u8 0, .string ⟨#[]⟩] 23)).heap.size := by simp
  go_enter Tryd.func9, Tryd.ntmps9
  go_wp2_with fail
  generalize w.alloc (.cells #[.int .u8 1, .bool true, .int .u8 1, .bool true, .int .u8 0, .int .u8 0, .string ⟨#[]⟩] 23) = w1 at *
  refine (enc_a _ (HO.out _ B0) (HF.out _ B0)).mono ?_
  rintro e w2 ⟨rfl, hb2⟩
  have B2 := below_step B0 (Nat.le_refl _) hb2
  have F2 : FrBlk w2 w.heap.size 1 true 1 true 0 0 ⟨#[]⟩ := (hb2.block _ hlt).trans F0
  have hlt2 := Nat.lt_of_lt_of_le hlt hb2.size
  clear hb2 F0 hlt B0
  have k1 := cut5a
  have k2 := cut5b
  have k3 : (((ex5[4]'(by decide)).toNat : Int) != 126) = false := by rfl
  go_wp2_with fail
  refine (decode_any _ true 31 _ (HO.out _ B2) (HF.out _ B2) (by decide)).mono ?_
  rintro e w3 ⟨rfl, hb3⟩
  rw [dec5]
  unfold frV
  have B3 := below_step B2 (Nat.le_refl _) hb3
  have F3 : FrBlk w3 w.heap.size 1 true 1 true 0 0 ⟨#[]⟩ := (hb3.block _ hlt2).trans F2
  have hlt3 := Nat.lt_of_lt_of_le hlt2 hb3.size
  clear hb3 F2 hlt2 B2 k1 k2 k3
  go_wp2_with fail
  have B4 := B3.alloc B3.size (.cells #[.int .u8 1, .bool true, .int .u8 1, .bool true, .int .u8 0, .int .u8 0, .string ⟨#[]⟩] 23)
  have F4 : FrBlk (w3.alloc (.cells #[.int .u8 1, .bool true, .int .u8 1, .bool true, .int .u8 0, .int .u8 0, .string ⟨#[]⟩] 23)) w3.heap.size 1 true 1 true 0 0 ⟨#[]⟩ := World.alloc_heap_new w3 _
  have F3' : FrBlk (w3.alloc (.cells #[.int .u8 1, .bool true, .int .u8 1, .bool true, .int .u8 0, .int .u8 0, .string ⟨#[]⟩] 23)) w.heap.size 1 true 1 true 0 0 ⟨#[]⟩ := (Below.heap_alloc _ _ _ hlt3).trans F3
  refine (unstuff_any _ _ (by decide)).mono ?_
  rintro e w5 ⟨rfl, hb5⟩
  rw [un5]
  have B5 := below_step B4 (Nat.le_refl _) hb5
  have F5 : FrBlk w5 w3.heap.size 1 true 1 true 0 0 ⟨#[]⟩ := (hb5.block _ (by simp)).trans F4
  have F5' : FrBlk w5 w.heap.size 1 true 1 true 0 0 ⟨#[]⟩ := (hb5.block _ (by simp; omega)).trans F3'
  clear hb5 F4 F3' B4 F3 B3
  obtain ⟨c0, c1, c2, c3, c4, c5, c6, _⟩ := zero_cells F5
  obtain ⟨d0, d1, d2, d3, d4, d5, d6, _⟩ := zero_cells F5'
  clear F5 F5'
  go_wp2_with fail
  refine (stuff_any _ _ (by decide)).mono ?_
  rintro e w6 ⟨rfl, hb6⟩
  rw [st5]
  have B6 := below_step B5 (Nat.le_refl _) hb6
  clear hb6 B5
  go_wp2
  go_ret
  exact ⟨rfl, B6⟩

set_option maxHeartbeats 2000000 in
theorem advEncode_any (d k s r : Nat) (c p : Bool) (i : ByteArray) (b : Bool) (n1 : Int) (w : World) (hh : Octs w) (hf : Half w) (h0 : d ≤ 255) (h1 : k ≤ 255) (h2 : s ≤ 255) (h3 : r ≤ 255) (hi : i.size ≤ maxLen) :
    Calls Tryd.prog 3 #[.agg #[.int .u8 (d : Int), .bool c, .int .u8 (k : Int), .bool p, .int .u8 (s : Int), .int .u8 (r : Int), .string i], .bool b, .int .i64 n1] w fun e w' => e = .returned (.bool true) ∧ Below w.heap.size w w' := by
  have HI := hide hi
  unfold maxLen at hi
  have HO := hide (fun W (hb : Below w.heap.size w W) => hh.below hb)
  have HF := hide (fun W (hb : Below w.heap.size w W) => hf.below hb)
  clear hh hf
  have B0 := (Below.refl w.heap.size w).alloc (Nat.le_refl _) (.cells #[.int .u8 (d : Int), .bool c, .int .u8 (k : Int), .bool p, .int .u8 (s : Int), .int .u8 (r : Int), .string i] 23)
  have F0 : FrBlk (w.alloc (.cells #[.int .u8 (d : Int), .bool c, .int .u8 (k : Int), .bool p, .int .u8 (s : Int), .int .u8 (r : Int), .string i] 23)) w.heap.size d c k p s r i := World.alloc_heap_new w _
  have hlt : w.heap.size < (w.alloc (.cells #[.int .u8 (d : Int), .bool c, .int .u8 (k : Int), .bool p, .int .u8 (s : Int), .int .u8 (r : Int), .string i] 23)).heap.size := by simp
  obtain ⟨x, e, hR⟩ := encR_form d c k p s r i b n1
  have HR := hide hR
  clear hR
  by_cases h300 : 300 < i.size
  · go_enter Tryd.func3, Tryd.ntmps3
    go_wp2_with fail
    refine (works_any _ (HO.out _ B0) (HF.out _ B0)).mono ?_
    rintro e w2 ⟨rfl, hb2⟩
    have B2 := below_step B0 (Nat.le_refl _) hb2
    clear hb2 B0 F0
    go_wp2
    go_ret
    exact ⟨rfl, B2⟩
  · go_enter Tryd.func3, Tryd.ntmps3
    go_wp2_with fail
    generalize w.alloc (.cells #[.int .u8 (d : Int), .bool c, .int .u8 (k : Int), .bool p, .int .u8 (s : Int), .int .u8 (r : Int), .string i] 23) = w1 at *
    refine (encode_any d k s r c p i b n1 _ (HO.out _ B0) (HF.out _ B0) h0 h1 h2 h3 HI.out).mono ?_
    rintro e' w2 ⟨rfl, hb2⟩
    rw [HR.out]
    have B2 := below_step B0 (Nat.le_refl _) hb2
    have F2 : FrBlk w2 w.heap.size d c k p s r i := (hb2.block _ hlt).trans F0
    clear hb2 F0 B0 hlt
    obtain ⟨c0, c1, c2, c3, c4, c5, c6, _⟩ := zero_cells F2
    clear F2
    go_wp2_with fail
    refine (rencode_any d k s r c p i b n1 _ h0 h1 h2 h3 HI.out).mono ?_
    rintro e' w3 ⟨rfl, hb3⟩
    rw [HR.out]
    have B3 := below_step B2 (Nat.le_refl _) hb3
    clear hb3 B2 c0 c1 c2 c3 c4 c5 c6
    go_wp2_with fail
    refine (works_any _ (HO.out _ B3) (HF.out _ B3)).mono ?_
    rintro e' w4 ⟨rfl, hb4⟩
    have B4 := below_step B3 (Nat.le_refl _) hb4
    clear hb4 B3
    go_wp2
    go_ret
    exact ⟨rfl, B4⟩

set_option maxHeartbeats 2000000 in
theorem advDecode_any (s : ByteArray) (b : Bool) (n1 : Int) (w : World) (hh : Octs w) (hf : Half w) (hs : s.size ≤ maxLen) :
    Calls Tryd.prog 4 #[.string s, .bool b, .int .i64 n1] w fun e w' => e = .returned (.bool true) ∧ Below w.heap.size w w' := by
  unfold maxLen at hs
  have HO := hide (fun W (hb : Below w.heap.size w W) => hh.below hb)
  have HF := hide (fun W (hb : Below w.heap.size w W) => hf.below hb)
  by_cases h600 : 600 < s.size
  · go_enter Tryd.func4, Tryd.ntmps4
    go_wp2_with fail
    refine (works_any _ hh hf).mono ?_
    rintro e w2 ⟨rfl, hb2⟩
    go_wp2
    go_ret
    exact ⟨rfl, hb2⟩
  · obtain ⟨d, c, k, p, s', r, i, e, hR, _⟩ := decR_form s b n1
    have HR := hide hR
    clear hR
    go_enter Tryd.func4, Tryd.ntmps4
    go_wp2_with fail
    refine (decode_any s b n1 _ hh hf (by omega)).mono ?_
    rintro e' w2 ⟨rfl, hb2⟩
    rw [HR.out]
    unfold frV
    have B2 := hb2.alloc hb2.size (.cells #[.int .u8 (d : Int), .bool c, .int .u8 (k : Int), .bool p, .int .u8 (s' : Int), .int .u8 (r : Int), .string i] 23)
    have F2 : FrBlk (w2.alloc (.cells #[.int .u8 (d : Int), .bool c, .int .u8 (k : Int), .bool p, .int .u8 (s' : Int), .int .u8 (r : Int), .string i] 23)) w2.heap.size d c k p s' r i := World.alloc_heap_new w2 _
    clear hb2 hh hf
    go_wp2_with fail
    refine (rdecode_any s b n1 _ (by omega)).mono ?_
    rintro e' w3 ⟨rfl, hb3⟩
    rw [HR.out]
    unfold frV
    have B3 := below_step B2 (Nat.le_refl _) hb3
    have F3 : FrBlk w3 w2.heap.size d c k p s' r i := (hb3.block _ (by simp)).trans F2
    have hlt : w2.heap.size < w3.heap.size := (Array.getElem?_eq_some_iff.1 F3).1
    clear hb3 B2 F2
    obtain ⟨c0, c1, c2, c3, c4, c5, c6, _⟩ := zero_cells F3
    have B4 := B3.alloc B3.size (.cells #[.int .u8 (d : Int), .bool c, .int .u8 (k : Int), .bool p, .int .u8 (s' : Int), .int .u8 (r : Int), .string i] 23)
    clear F3 B3
    go_wp2_with fail
    refine (works_any _ (HO.out _ B4) (HF.out _ B4)).mono ?_
    rintro e' w4 ⟨rfl, hb4⟩
    have B5 := below_step B4 (Nat.le_refl _) hb4
    clear hb4 B4
    go_wp2
    go_ret
    exact ⟨rfl, B5⟩

end Go.Proofs.YtflooblecbhcoaaDoor
