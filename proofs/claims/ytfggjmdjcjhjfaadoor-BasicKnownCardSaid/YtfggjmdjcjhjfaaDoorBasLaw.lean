/- Chapter 4's examples, and the walks of the laws BasicEncodes, BasicDecodes. -/
import Derived.Test.YtfggjmdjcjhjfaaDoorBasREnc
import Derived.Test.YtfggjmdjcjhjfaaDoorBasBackPlain
import Derived.Laws.MakeOwn
namespace Go.Proofs.YtfggjmdjcjhjfaaDoor
open Go.RowKit
set_option linter.unusedVariables false
set_option linter.unusedSimpArgs false

def zeros (n : Nat) : Obj := .cells (madeCells (Value.int .u8 0).cells n) 5
def zstr (n : Nat) : ByteArray := strOfNums (List.replicate n 0)
theorem zstr_size (n : Nat) : (zstr n).size = n := by unfold zstr; rw [strOfNums_size]; simp
theorem run_make_u8 (n : Nat) (hn : n ≤ 1000) (W : World) :
    (Instr.makeSlice 34 (.int .i64 (n : Int)) (.int .i64 (n : Int))).run Tryd.prog W = .ok (.slice (some ⟨W.heap.size, 0, none⟩) n n) (W.alloc (zeros n)) := by
  obtain ⟨i0, hi, hz0, hz1, hz2⟩ := info_parts u8row
  have := run_make (P := Tryd.prog) W 34 5 i0 (.int .u8 0) Tryd.underlying34 hi hz0 .i64 .i64 n n (by omega) (by omega) (by rw [hz2]; omega) (by omega)
  rw [this, hz1]
  simp [zeros]
theorem run_str (b n cap : Nat) (xs : List Int) (W : World) (hx : xs.length = n) (hc : ∀ i, i < n → W.cell? ⟨b, 0 + i, none⟩ = some (.int .u8 (xs.getD i 0))) :
    (convert 34 9 (.slice (some ⟨b, 0, none⟩) n cap)).run Tryd.prog W = .ok (.string (strOfNums xs)) W :=
  run_convert_bytes_arg (P := Tryd.prog) W 34 5 Tryd.underlying34 Tryd.underlying5 b 0 n cap xs hx hc 9 Tryd.underlying9
theorem run_zstr (n : Nat) (W : World) : (convert 34 9 (.slice (some ⟨W.heap.size, 0, none⟩) n n)).run Tryd.prog (W.alloc (zeros n)) = .ok (.string (zstr n)) (W.alloc (zeros n)) := by
  refine run_str W.heap.size n n _ _ (by simp) fun i hi => ?_
  unfold zeros
  rw [Nat.zero_add, World.cell?_alloc_new, ← Array.getElem?_toList, show (Value.int .u8 0).cells = #[Value.int .u8 0] from rfl, toList_madeCells_one]
  simp [hi, List.getD]

abbrev ex4 : ByteArray := ⟨#[249, 3, 63, 1, 28, 249]⟩
theorem enc4a : encR4 0 true 1 true 0 0 ⟨#[]⟩ true 31 = .returned (.tuple #[.string ex4, .int .i64 0]) := by rfl
theorem enc4b : encR4 0 true 2 false 0 0 ⟨#[]⟩ true 31 = .returned (.tuple #[.string ⟨#[]⟩, .int .i64 2]) := by rfl
theorem enc4c : encR4 1 true 5 false 0 0 (zstr 128) true 127 = .returned (.tuple #[.string ⟨#[]⟩, .int .i64 3]) := by
  have h : mayOk 1 true 5 0 0 (zstr 128) = true := by
    unfold mayOk
    rw [zstr_size]
    rfl
  unfold encR4
  rw [h, if_neg (by decide), zstr_size, if_pos (by decide)]
theorem dec4a : decT4 ⟨#[3, 63, 1, 28]⟩ true 31 = .returned (.tuple #[frV 0 true 1 true 0 0 ⟨#[]⟩, .int .i64 0]) := by rfl
theorem dec4b : decT4 ⟨#[3, 63, 1, 29]⟩ true 31 = bad 41 := by rfl
theorem dec4c : decT4 ⟨#[3, 63, 3, 28]⟩ true 31 = bad 40 := by rfl

theorem enc4a_any (w : World) (hh : Octs w) (hf : Half w) :
    Calls Tryd.prog 9 #[.agg #[.int .u8 0, .bool true, .int .u8 1, .bool true, .int .u8 0, .int .u8 0, .string ⟨#[]⟩], .bool true, .int .i64 31] w fun e w' => e = .returned (.tuple #[.string ex4, .int .i64 0]) ∧ Below w.heap.size w w' := by
  have := bencode_any 0 1 0 0 true true ⟨#[]⟩ true 31 w hh hf (by omega) (by omega) (by omega) (by omega) (by decide)
  rw [enc4a] at this
  exact this
theorem enc4b_any (w : World) (hh : Octs w) (hf : Half w) :
    Calls Tryd.prog 9 #[.agg #[.int .u8 0, .bool true, .int .u8 2, .bool false, .int .u8 0, .int .u8 0, .string ⟨#[]⟩], .bool true, .int .i64 31] w fun e w' => e = .returned (.tuple #[.string ⟨#[]⟩, .int .i64 2]) ∧ Below w.heap.size w w' := by
  have := bencode_any 0 2 0 0 true false ⟨#[]⟩ true 31 w hh hf (by omega) (by omega) (by omega) (by omega) (by decide)
  rw [enc4b] at this
  exact this
theorem enc4c_any (w : World) (hh : Octs w) (hf : Half w) :
    Calls Tryd.prog 9 #[.agg #[.int .u8 1, .bool true, .int .u8 5, .bool false, .int .u8 0, .int .u8 0, .string (zstr 128)], .bool true, .int .i64 127] w fun e w' => e = .returned (.tuple #[.string ⟨#[]⟩, .int .i64 3]) ∧ Below w.heap.size w w' := by
  have := bencode_any 1 5 0 0 true false (zstr 128) true 127 w hh hf (by omega) (by omega) (by omega) (by omega) (by rw [zstr_size]; unfold maxLen; omega)
  rw [enc4c] at this
  exact this

set_option maxRecDepth 100000 in
set_option maxHeartbeats 4000000 in
theorem works_any (w : World) (hh : Octs w) (hf : Half w) :
    Calls Tryd.prog 8 #[] w fun e w' => e = .returned (.bool true) ∧ Below w.heap.size w w' := by
  have HO := hide (fun W (hb : Below w.heap.size w W) => hh.below hb)
  have HF := hide (fun W (hb : Below w.heap.size w W) => hf.below hb)
  clear hh hf
  have B0 := (Below.refl w.heap.size w).alloc (Nat.le_refl _) (.cells #[.int .u8 0, .bool true, .int .u8 1, .bool true, .int .u8 0, .int .u8 0, .string ⟨#[]⟩] 23)
  have F0 : FrBlk (w.alloc (.cells #[.int .u8 0, .bool true, .int .u8 1, .bool true, .int .u8 0, .int .u8 0, .string ⟨#[]⟩] 23)) w.heap.size 0 true 1 true 0 0 ⟨#[]⟩ := World.alloc_heap_new w _
  have hlt : w.heap.size < (w.alloc (.cells #[.int .u8 0, .bool true, .int .u8 1, .bool true, .int .u8 0, .int .u8 0, .string ⟨#[]⟩] 23)).heap.size := by simp
  go_enter Tryd.func8, Tryd.ntmps8
  go_wp2_with fail
  generalize w.alloc (.cells #[.int .u8 0, .bool true, .int .u8 1, .bool true, .int .u8 0, .int .u8 0, .string ⟨#[]⟩] 23) = w1 at *
  refine (enc4a_any _ (HO.out _ B0) (HF.out _ B0)).mono ?_
  rintro e w2 ⟨rfl, hb2⟩
  have B2 := below_step B0 (Nat.le_refl _) hb2
  have F2 : FrBlk w2 w.heap.size 0 true 1 true 0 0 ⟨#[]⟩ := (hb2.block _ hlt).trans F0
  have hlt2 := Nat.lt_of_lt_of_le hlt hb2.size
  clear hb2 F0 hlt B0
  go_wp2_with fail
  refine (bdecode_any _ true 31 _ (HO.out _ B2) (HF.out _ B2) (by decide)).mono ?_
  rintro e w3 ⟨rfl, hb3⟩
  rw [dec4a]
  unfold frV
  have B3 := below_step B2 (Nat.le_refl _) hb3
  have F3 : FrBlk w3 w.heap.size 0 true 1 true 0 0 ⟨#[]⟩ := (hb3.block _ hlt2).trans F2
  have hlt3 := Nat.lt_of_lt_of_le hlt2 hb3.size
  clear hb3 F2 hlt2 B2
  go_wp2_with fail
  have B4 := B3.alloc B3.size (.cells #[.int .u8 0, .bool true, .int .u8 1, .bool true, .int .u8 0, .int .u8 0, .string ⟨#[]⟩] 23)
  have F4 : FrBlk (w3.alloc (.cells #[.int .u8 0, .bool true, .int .u8 1, .bool true, .int .u8 0, .int .u8 0, .string ⟨#[]⟩] 23)) w3.heap.size 0 true 1 true 0 0 ⟨#[]⟩ := World.alloc_heap_new w3 _
  have F3' : FrBlk (w3.alloc (.cells #[.int .u8 0, .bool true, .int .u8 1, .bool true, .int .u8 0, .int .u8 0, .string ⟨#[]⟩] 23)) w.heap.size 0 true 1 true 0 0 ⟨#[]⟩ := (Below.heap_alloc _ _ _ hlt3).trans F3
  have hlt4 : w3.heap.size < (w3.alloc (.cells #[.int .u8 0, .bool true, .int .u8 1, .bool true, .int .u8 0, .int .u8 0, .string ⟨#[]⟩] 23)).heap.size := by simp
  generalize w3.alloc (.cells #[.int .u8 0, .bool true, .int .u8 1, .bool true, .int .u8 0, .int .u8 0, .string ⟨#[]⟩] 23) = w4 at *
  refine (bdecode_any _ true 31 _ (HO.out _ B4) (HF.out _ B4) (by decide)).mono ?_
  rintro e w5 ⟨rfl, hb5⟩
  rw [dec4b]
  unfold bad
  have B5 := below_step B4 (Nat.le_refl _) hb5
  have F5 : FrBlk w5 w3.heap.size 0 true 1 true 0 0 ⟨#[]⟩ := (hb5.block _ hlt4).trans F4
  have F5' : FrBlk w5 w.heap.size 0 true 1 true 0 0 ⟨#[]⟩ := (hb5.block _ (Nat.lt_trans hlt3 hlt4)).trans F3'
  have hlt5 := Nat.lt_of_lt_of_le hlt4 hb5.size
  clear hb5 F4 F3' B4 F3 B3 hlt4
  go_wp2_with fail
  have B6 := B5.alloc B5.size zfr
  have F6 : FrBlk (w5.alloc zfr) w3.heap.size 0 true 1 true 0 0 ⟨#[]⟩ := (Below.heap_alloc _ _ _ hlt5).trans F5
  have F6' : FrBlk (w5.alloc zfr) w.heap.size 0 true 1 true 0 0 ⟨#[]⟩ := (Below.heap_alloc _ _ _ (Nat.lt_trans hlt3 hlt5)).trans F5'
  have hlt6 : w3.heap.size < (w5.alloc zfr).heap.size := by simp; omega
  unfold zfr at B6 F6 F6' hlt6
  generalize w5.alloc (.cells #[.int .u8 0, .bool false, .int .u8 0, .bool false, .int .u8 0, .int .u8 0, .string ⟨#[]⟩] 23) = w6 at *
  clear F5 F5' B5
  refine (bdecode_any _ true 31 _ (HO.out _ B6) (HF.out _ B6) (by decide)).mono ?_
  rintro e w7 ⟨rfl, hb7⟩
  rw [dec4c]
  unfold bad
  have B7 := below_step B6 (Nat.le_refl _) hb7
  have F7 : FrBlk w7 w3.heap.size 0 true 1 true 0 0 ⟨#[]⟩ := (hb7.block _ hlt6).trans F6
  have F7' : FrBlk w7 w.heap.size 0 true 1 true 0 0 ⟨#[]⟩ := (hb7.block _ (Nat.lt_trans hlt3 hlt6)).trans F6'
  have hlt7 := Nat.lt_of_lt_of_le hlt6 hb7.size
  clear hb7 F6 F6' B6 hlt6
  go_wp2_with fail
  have B8 := B7.alloc B7.size zfr
  have F8 : FrBlk (w7.alloc zfr) w3.heap.size 0 true 1 true 0 0 ⟨#[]⟩ := (Below.heap_alloc _ _ _ hlt7).trans F7
  have F8' : FrBlk (w7.alloc zfr) w.heap.size 0 true 1 true 0 0 ⟨#[]⟩ := (Below.heap_alloc _ _ _ (Nat.lt_trans hlt3 hlt7)).trans F7'
  have hlt8 : w3.heap.size < (w7.alloc zfr).heap.size := by simp; omega
  unfold zfr at B8 F8 F8' hlt8
  generalize w7.alloc (.cells #[.int .u8 0, .bool false, .int .u8 0, .bool false, .int .u8 0, .int .u8 0, .string ⟨#[]⟩] 23) = w8 at *
  clear F7 F7' B7
  refine (enc4b_any _ (HO.out _ B8) (HF.out _ B8)).mono ?_
  rintro e w9 ⟨rfl, hb9⟩
  have B9 := below_step B8 (Nat.le_refl _) hb9
  have F9 : FrBlk w9 w3.heap.size 0 true 1 true 0 0 ⟨#[]⟩ := (hb9.block _ hlt8).trans F8
  have F9' : FrBlk w9 w.heap.size 0 true 1 true 0 0 ⟨#[]⟩ := (hb9.block _ (Nat.lt_trans hlt3 hlt8)).trans F8'
  have hlt9 := Nat.lt_of_lt_of_le hlt8 hb9.size
  clear hb9 F8 F8' B8 hlt8
  have hmk : (Instr.makeSlice 34 (.int .i64 128) (.int .i64 128)).run Tryd.prog w9 = .ok (.slice (some ⟨w9.heap.size, 0, none⟩) 128 128) (w9.alloc (zeros 128)) := run_make_u8 128 (by omega) w9
  have hcv := run_zstr 128 w9
  go_wp2_with fail
  have B10 := B9.alloc B9.size (zeros 128)
  have F10 : FrBlk (w9.alloc (zeros 128)) w3.heap.size 0 true 1 true 0 0 ⟨#[]⟩ := (Below.heap_alloc _ _ _ hlt9).trans F9
  have F10' : FrBlk (w9.alloc (zeros 128)) w.heap.size 0 true 1 true 0 0 ⟨#[]⟩ := (Below.heap_alloc _ _ _ (Nat.lt_trans hlt3 hlt9)).trans F9'
  have hlt10 : w3.heap.size < (w9.alloc (zeros 128)).heap.size := by simp; omega
  generalize w9.alloc (zeros 128) = w10 at *
  clear F9 F9' B9
  refine (enc4c_any _ (HO.out _ B10) (HF.out _ B10)).mono ?_
  rintro e w11 ⟨rfl, hb11⟩
  have B11 := below_step B10 (Nat.le_refl _) hb11
  have F11 : FrBlk w11 w3.heap.size 0 true 1 true 0 0 ⟨#[]⟩ := (hb11.block _ hlt10).trans F10
  have F11' : FrBlk w11 w.heap.size 0 true 1 true 0 0 ⟨#[]⟩ := (hb11.block _ (Nat.lt_trans hlt3 hlt10)).trans F10'
  clear hb11 F10 F10' B10 hlt10 hmk hcv
  obtain ⟨c0, c1, c2, c3, c4, c5, c6, _⟩ := zero_cells F11
  obtain ⟨d0, d1, d2, d3, d4, d5, d6, _⟩ := zero_cells F11'
  clear F11 F11'
  go_wp2_with fail
  refine (broom_any _ _).mono ?_
  rintro e w12 ⟨rfl, rfl⟩
  rw [show room 500 = 128 from rfl]
  go_wp2
  go_ret
  exact ⟨rfl, B11⟩

/-- What Decode answers is a frame and a number. -/
theorem decT4_form (t : ByteArray) (b : Bool) (n1 : Int) : ∃ d c k p s r i e, decT4 t b n1 = .returned (.tuple #[frV d c k p s r i, .int .i64 e]) ∧ d ≤ 255 ∧ k ≤ 255 ∧ s ≤ 255 ∧ r ≤ 255 ∧ i.size ≤ t.size ∧ (e ≠ 0 → d = 0 ∧ c = false ∧ k = 0 ∧ p = false ∧ s = 0 ∧ r = 0 ∧ i = ⟨#[]⟩) := by
  unfold decT4
  have ha := oc_lt t 0
  have hc := oc_lt t 1
  have hk := gk_le (oc t 1)
  have hs := gs_le (oc t 1)
  have hr := gr_le (oc t 1) hc
  have hi : (t.extract (hdN t) (t.size - 1)).size ≤ t.size := by rw [ByteArray.size_extract]; omega
  repeat' split
  all_goals first
    | exact ⟨0, false, 0, false, 0, 0, ⟨#[]⟩, _, rfl, by omega, by omega, by omega, by omega, Nat.zero_le _, fun _ => ⟨rfl, rfl, rfl, rfl, rfl, rfl, rfl⟩⟩
    | exact ⟨_, _, _, _, _, _, _, 0, rfl, by omega, by omega, by omega, by omega, hi, fun h => absurd rfl h⟩
theorem encR4_form (d : Nat) (c : Bool) (k : Nat) (p : Bool) (s r : Nat) (i : ByteArray) (b : Bool) (n1 : Int) : ∃ x e, encR4 d c k p s r i b n1 = .returned (.tuple #[.string x, .int .i64 e]) := by
  unfold encR4
  split
  · exact ⟨_, _, rfl⟩
  · split <;> exact ⟨_, _, rfl⟩

set_option maxHeartbeats 2000000 in
theorem basEncodes_any (d k s r : Nat) (c p : Bool) (i : ByteArray) (b : Bool) (n1 : Int) (w : World) (hh : Octs w) (hf : Half w) (h0 : d ≤ 255) (h1 : k ≤ 255) (h2 : s ≤ 255) (h3 : r ≤ 255) (hi : i.size ≤ maxLen) :
    Calls Tryd.prog 3 #[.agg #[.int .u8 (d : Int), .bool c, .int .u8 (k : Int), .bool p, .int .u8 (s : Int), .int .u8 (r : Int), .string i], .bool b, .int .i64 n1] w fun e w' => e = .returned (.bool true) ∧ Below w.heap.size w w' := by
  unfold maxLen at hi
  have HO := hide (fun W (hb : Below w.heap.size w W) => hh.below hb)
  have HF := hide (fun W (hb : Below w.heap.size w W) => hf.below hb)
  clear hh hf
  have B0 := (Below.refl w.heap.size w).alloc (Nat.le_refl _) (.cells #[.int .u8 (d : Int), .bool c, .int .u8 (k : Int), .bool p, .int .u8 (s : Int), .int .u8 (r : Int), .string i] 23)
  have F0 : FrBlk (w.alloc (.cells #[.int .u8 (d : Int), .bool c, .int .u8 (k : Int), .bool p, .int .u8 (s : Int), .int .u8 (r : Int), .string i] 23)) w.heap.size d c k p s r i := World.alloc_heap_new w _
  have hlt : w.heap.size < (w.alloc (.cells #[.int .u8 (d : Int), .bool c, .int .u8 (k : Int), .bool p, .int .u8 (s : Int), .int .u8 (r : Int), .string i] 23)).heap.size := by simp
  obtain ⟨x, e, hR⟩ := encR4_form d c k p s r i b n1
  have HR := hide hR
  clear hR
  by_cases h300 : 300 < i.size
  · go_enter Tryd.func3, Tryd.ntmps3
    go_wp2_with fail
    refine (works_any _ (HO.out _ B0) (HF.out _ B0)).mono ?_
    rintro e w2 ⟨rfl, hb2⟩
    have B2 := below_step B0 (Nat.le_refl _) hb2
    clear hb2 B0 F0
    go_wp2
    go_ret
    exact ⟨rfl, B2⟩
  · go_enter Tryd.func3, Tryd.ntmps3
    go_wp2_with fail
    generalize w.alloc (.cells #[.int .u8 (d : Int), .bool c, .int .u8 (k : Int), .bool p, .int .u8 (s : Int), .int .u8 (r : Int), .string i] 23) = w1 at *
    refine (bencode_any d k s r c p i b n1 _ (HO.out _ B0) (HF.out _ B0) h0 h1 h2 h3 (by unfold maxLen; omega)).mono ?_
    rintro e' w2 ⟨rfl, hb2⟩
    rw [HR.out]
    have B2 := below_step B0 (Nat.le_refl _) hb2
    have F2 : FrBlk w2 w.heap.size d c k p s r i := (hb2.block _ hlt).trans F0
    clear hb2 F0 B0 hlt
    obtain ⟨c0, c1, c2, c3, c4, c5, c6, _⟩ := zero_cells F2
    clear F2
    go_wp2_with fail
    refine (rencode4_any d k s r c p i b n1 _ h0 h1 h2 h3 (by omega)).mono ?_
    rintro e' w3 ⟨rfl, hb3⟩
    rw [HR.out]
    have B3 := below_step B2 (Nat.le_refl _) hb3
    clear hb3 B2 c0 c1 c2 c3 c4 c5 c6
    go_wp2_with fail
    refine (broom_any _ _).mono ?_
    rintro e' w9 ⟨rfl, rfl⟩
    go_wp2_with fail
    refine (rroom_any _ _).mono ?_
    rintro e' w9 ⟨rfl, rfl⟩
    generalize room n1 = RM at *
    go_wp2_with fail
    refine (works_any _ (HO.out _ B3) (HF.out _ B3)).mono ?_
    rintro e' w4 ⟨rfl, hb4⟩
    have B4 := below_step B3 (Nat.le_refl _) hb4
    clear hb4 B3
    go_wp2
    go_ret
    exact ⟨rfl, B4⟩

set_option maxHeartbeats 2000000 in
theorem basDecodes_any (s : ByteArray) (b : Bool) (n1 : Int) (w : World) (hh : Octs w) (hf : Half w) (hs : s.size ≤ maxLen) :
    Calls Tryd.prog 4 #[.string s, .bool b, .int .i64 n1] w fun e w' => e = .returned (.bool true) ∧ Below w.heap.size w w' := by
  unfold maxLen at hs
  have HO := hide (fun W (hb : Below w.heap.size w W) => hh.below hb)
  have HF := hide (fun W (hb : Below w.heap.size w W) => hf.below hb)
  by_cases h400 : 400 < s.size
  · go_enter Tryd.func4, Tryd.ntmps4
    go_wp2_with fail
    refine (works_any _ hh hf).mono ?_
    rintro e w2 ⟨rfl, hb2⟩
    go_wp2
    go_ret
    exact ⟨rfl, hb2⟩
  · obtain ⟨d, c, k, p, s', r, i, e, hR, _⟩ := decT4_form s b n1
    have HR := hide hR
    clear hR
    go_enter Tryd.func4, Tryd.ntmps4
    go_wp2_with fail
    refine (bdecode_any s b n1 _ hh hf (by omega)).mono ?_
    rintro e' w2 ⟨rfl, hb2⟩
    rw [HR.out]
    unfold frV
    have B2 := hb2.alloc hb2.size (.cells #[.int .u8 (d : Int), .bool c, .int .u8 (k : Int), .bool p, .int .u8 (s' : Int), .int .u8 (r : Int), .string i] 23)
    have F2 : FrBlk (w2.alloc (.cells #[.int .u8 (d : Int), .bool c, .int .u8 (k : Int), .bool p, .int .u8 (s' : Int), .int .u8 (r : Int), .string i] 23)) w2.heap.size d c k p s' r i := World.alloc_heap_new w2 _
    clear hb2 hh hf
    go_wp2_with fail
    refine (rdecode4_any s b n1 _ (by omega)).mono ?_
    rintro e' w3 ⟨rfl, hb3⟩
    rw [HR.out]
    unfold frV
    have B3 := below_step B2 (Nat.le_refl _) hb3
    have F3 : FrBlk w3 w2.heap.size d c k p s' r i := (hb3.block _ (by simp)).trans F2
    have hlt : w2.heap.size < w3.heap.size := (Array.getElem?_eq_some_iff.1 F3).1
    clear hb3 B2 F2
    obtain ⟨c0, c1, c2, c3, c4, c5, c6, _⟩ := zero_cells F3
    have B4 := B3.alloc B3.size (.cells #[.int .u8 (d : Int), .bool c, .int .u8 (k : Int), .bool p, .int .u8 (s' : Int), .int .u8 (r : Int), .string i] 23)
    clear F3 B3
    go_wp2_with fail
    refine (works_any _ (HO.out _ B4) (HF.out _ B4)).mono ?_
    rintro e' w4 ⟨rfl, hb4⟩
    have B5 := below_step B4 (Nat.le_refl _) hb4
    clear hb4 B4
    go_wp2
    go_ret
    exact ⟨rfl, B5⟩
end Go.Proofs.YtfggjmdjcjhjfaaDoor
