/- The law AdvancedKnown: the examples, and frames of each kind. -/
import Derived.Test.YtflooblecbhcoaaDoorAdvBack
import Derived.Test.YtflooblecbhcoaaDoorAdvTurn
import Derived.Laws.MakeOwn
namespace Go.Proofs.YtflooblecbhcoaaDoor
open Go.RowKit
set_option linter.unusedVariables false
set_option linter.unusedSimpArgs false

/-- The world of a round: the second frame's block lies in it. -/
structure KAt (w W : World) (g d k s r : Nat) (c p : Bool) (i : ByteArray) : Prop where
  below : Below w.heap.size w W
  blk : FrBlk W g d c k p s r i
  lt : g < W.heap.size
theorem KAt.step {w W W' : World} {g d k s r : Nat} {c p : Bool} {i : ByteArray} (h : KAt w W g d k s r c p i) (hb : Below W.heap.size W W') : KAt w W' g d k s r c p i :=
  ⟨below_step h.below (Nat.le_refl _) hb, (hb.block _ h.lt).trans h.blk, Nat.lt_of_lt_of_le h.lt hb.size⟩
theorem size3 (a b c : ByteArray) (n : Nat) (h : a.size + b.size + c.size ≤ n) : (a ++ b ++ c).size ≤ n := by rw [ByteArray.size_append, ByteArray.size_append]; exact h
theorem enc_known (d s r : Nat) (c p : Bool) (i : ByteArray) (hd : d < 64) (hs : s < 8) (hr : r < 8) (hi : i.size = 3) : ∃ x : ByteArray, encR d c 7 p s r i c 31 = .returned (.tuple #[.string x, .int .i64 0]) ∧ 6 ≤ x.size ∧ x.size ≤ 600 := by
  have hm : mayOk d c 7 s r i = true := by
    unfold mayOk putOk
    have h1 : decide (d ≤ 63) = true := by rw [decide_eq_true_iff]; omega
    have h2 : mayF 7 c = true := by cases c <;> rfl
    have h3 : carr 7 = true := rfl
    rw [h1, h2, h3]
    simp
    omega
  have hsz := encL_size 7 (octF d c 7 p s r i c)
  rw [octF_size] at hsz
  refine ⟨st (encL 7 (octF d c 7 p s r i c)), ?_, by omega, by omega⟩
  unfold encR
  rw [if_neg (by rw [hm]; simp), if_neg (by unfold room; omega)]

def zeros (n : Nat) : Obj := .cells (madeCells (Value.int .u8 0).cells n) 5
def zstr (n : Nat) : ByteArray := strOfNums (List.replicate n 0)
theorem zstr_size (n : Nat) : (zstr n).size = n := by unfold zstr; rw [strOfNums_size]; simp
theorem run_make_u8 (n : Nat) (hn : n ≤ 1000) (W : World) :
    (Instr.makeSlice 37 (.int .i64 (n : Int)) (.int .i64 (n : Int))).run Tryd.prog W = .ok (.slice (some ⟨W.heap.size, 0, none⟩) n n) (W.alloc (zeros n)) := by
  obtain ⟨i0, hi, hz0, hz1, hz2⟩ := info_parts u8row
  have := run_make (P := Tryd.prog) W 37 5 i0 (.int .u8 0) Tryd.underlying37 hi hz0 .i64 .i64 n n (by omega) (by omega) (by rw [hz2]; omega) (by omega)
  rw [this, hz1]
  simp [zeros]
theorem run_str (b n cap : Nat) (xs : List Int) (W : World) (hx : xs.length = n) (hc : ∀ i, i < n → W.cell? ⟨b, 0 + i, none⟩ = some (.int .u8 (xs.getD i 0))) :
    (convert 37 9 (.slice (some ⟨b, 0, none⟩) n cap)).run Tryd.prog W = .ok (.string (strOfNums xs)) W :=
  run_convert_bytes_arg (P := Tryd.prog) W 37 5 Tryd.underlying37 Tryd.underlying5 b 0 n cap xs hx hc 9 Tryd.underlying9
theorem run_zstr (n : Nat) (W : World) : (convert 37 9 (.slice (some ⟨W.heap.size, 0, none⟩) n n)).run Tryd.prog (W.alloc (zeros n)) = .ok (.string (zstr n)) (W.alloc (zeros n)) := by
  refine run_str W.heap.size n n _ _ (by simp) fun i hi => ?_
  unfold zeros
  rw [Nat.zero_add, World.cell?_alloc_new, ← Array.getElem?_toList, show (Value.int .u8 0).cells = #[Value.int .u8 0] from rfl, toList_madeCells_one]
  simp [hi, List.getD]

def nums : List Int := [-9223372036854775808, 0, 127, 128, 129, 9223372036854775807]
abbrev numsO : Obj := .cells #[.int .i64 (-9223372036854775808), .int .i64 0, .int .i64 127, .int .i64 128, .int .i64 129, .int .i64 9223372036854775807] 3
theorem nums_cell (W : World) (j : Nat) (hj : j < 6) : (W.alloc numsO).cell? ⟨W.heap.size, j, none⟩ = some (.int .i64 (nums.getD j 0)) := by
  rw [World.cell?_alloc_new]
  rcases (show j = 0 ∨ j = 1 ∨ j = 2 ∨ j = 3 ∨ j = 4 ∨ j = 5 by omega) with rfl | rfl | rfl | rfl | rfl | rfl <;> rfl
/-- The world of the last loop: the long frame's block and the numbers' block. -/
structure LAt (w W : World) (g a : Nat) : Prop where
  below : Below w.heap.size w W
  blk : ∃ i : ByteArray, FrBlk W g 5 false 5 false 0 0 i ∧ 128 ≤ i.size ∧ i.size ≤ 129
  cells : ∀ j, j < 6 → W.cell? ⟨a, j, none⟩ = some (.int .i64 (nums.getD j 0))
  ge : w.heap.size ≤ g
  ne : g ≠ a
  lt : g < W.heap.size
  lta : a < W.heap.size
theorem LAt.step {w W W' : World} {g a : Nat} (h : LAt w W g a) (hb : Below W.heap.size W W') : LAt w W' g a := by
  obtain ⟨i, h1, h2, h3⟩ := h.blk
  exact ⟨below_step h.below (Nat.le_refl _) hb, ⟨i, (hb.block _ h.lt).trans h1, h2, h3⟩, fun j hj => (hb.cell (p := ⟨a, j, none⟩) h.lta).trans (h.cells j hj), h.ge, h.ne, Nat.lt_of_lt_of_le h.lt hb.size, Nat.lt_of_lt_of_le h.lta hb.size⟩
theorem LAt.cut {w W : World} {g a : Nat} {i : ByteArray} (h : LAt w W g a) (hb : FrBlk W g 5 false 5 false 0 0 i) (hi : 128 ≤ i.size) : LAt w (W.setCell ⟨g, 6, none⟩ (.string (i.extract 0 128))) g a := by
  refine ⟨h.below.setCell (p := ⟨g, 6, none⟩) h.ge _, ⟨i.extract 0 128, ?_, by rw [ByteArray.size_extract]; omega, by rw [ByteArray.size_extract]; omega⟩, fun j hj => ?_, h.ge, h.ne, by simpa using h.lt, by simpa using h.lta⟩
  · have := blk_set hb 6 (.string (i.extract 0 128))
    exact this
  · rw [World.cell?_setCell_other _ _ _ _ (by simp)]
    exact h.cells j hj

set_option maxRecDepth 100000 in
set_option maxHeartbeats 8000000 in
theorem advKnown_any (w : World) (hh : Octs w) (hf : Half w) :
    Calls Tryd.prog 8 #[] w fun e w' => e = .returned (.bool true) ∧ Below w.heap.size w w' := by
  have HO := hide (fun W (hb : Below w.heap.size w W) => hh.below hb)
  have HF := hide (fun W (hb : Below w.heap.size w W) => hf.below hb)
  clear hh hf
  go_enter Tryd.func8, Tryd.ntmps8
  go_wp2
  go_loopw [1] (fun i wr => ∃ k : Nat, k ≤ 256 ∧ i = .int .i64 (k : Int) ∧ Below w.heap.size w wr) (fun i _ => 256 - (intOf i).toNat)
  case atStart => exact ⟨0, by omega, rfl, Below.refl _ _⟩
  case round =>
    obtain ⟨k, hk, rfl, hB⟩ := hrel
    obtain ⟨wo, rfl⟩ : ∃ wo : World, wo = wr := ⟨_, rfl⟩
    by_cases hlt : k < 256
    · have e3 : (k : Int) < 256 := by omega
      have hs1 := run_st wo.heap.size 1 1 [k] (wo.alloc (.cells #[.int .u8 (k : Int)] 5)) rfl (fun i hi => by
        obtain rfl : i = 0 := by omega
        exact World.cell?_alloc_new wo #[.int .u8 (k : Int)] 5 0)
      have h1 : (st [k]).size = 1 := st_size _
      generalize st [k] = one at *
      have m66 : (k : Int) % 66 = ((k % 66 : Nat) : Int) := rfl
      have l66 : k % 66 < 66 := Nat.mod_lt _ (by omega)
      have m64 : (k : Int) % 64 = ((k % 64 : Nat) : Int) := rfl
      have l64 : k % 64 < 64 := Nat.mod_lt _ (by omega)
      have m12 : (k : Int) % 12 = ((k % 12 : Nat) : Int) := rfl
      have l12 : k % 12 < 12 := Nat.mod_lt _ (by omega)
      have m8 : (k : Int) % 8 = ((k % 8 : Nat) : Int) := rfl
      have l8 : k % 8 < 8 := Nat.mod_lt _ (by omega)
      have m88 : (k : Int) / 8 % 8 = ((k / 8 % 8 : Nat) : Int) := rfl
      have l88 : k / 8 % 8 < 8 := Nat.mod_lt _ (by omega)
      generalize k % 66 = d1 at *
      generalize k % 64 = d2 at *
      generalize k % 12 = k1 at *
      generalize k % 8 = s1 at *
      generalize k / 8 % 8 = r1 at *
      obtain ⟨cb, hcb⟩ : ∃ cb : Bool, ((k : Int) % 2 == 0) = cb := ⟨_, rfl⟩
      obtain ⟨pb, hpb⟩ : ∃ pb : Bool, ((k : Int) % 3 == 0) = pb := ⟨_, rfl⟩
      obtain ⟨inf, hinf⟩ : ∃ inf, ((⟨#[97]⟩ : ByteArray) ++ one) ++ ⟨#[125]⟩ = inf := ⟨_, rfl⟩
      have h3 : inf.size = 3 := by rw [← hinf, ByteArray.size_append, ByteArray.size_append, h1]; rfl
      have qa : ¬ 9223372036854775807 < (⟨#[97]⟩ : ByteArray).size + one.size := by rw [h1]; decide
      have qb : ¬ 9223372036854775807 < ((⟨#[97]⟩ : ByteArray) ++ one).size + (⟨#[125]⟩ : ByteArray).size := by rw [ByteArray.size_append, h1]; decide
      have H1 := hide h1
      have H3 := hide h3
      clear h1 h3
      go_upto_region 7 with (fail)
      have B3 := ((hB.alloc hB.size (.cells #[.int .u8 (k : Int)] 5)).alloc (by have := hB.size; simp; omega) (.cells #[.int .u8 (d1 : Int), .bool cb, .int .u8 (k1 : Int), .bool pb, .int .u8 (s1 : Int), .int .u8 (r1 : Int), .string one] 23)).alloc (by have := hB.size; simp; omega) (.cells #[.int .u8 (d2 : Int), .bool cb, .int .u8 7, .bool pb, .int .u8 (s1 : Int), .int .u8 (r1 : Int), .string inf] 23)
      have FA : FrBlk (((wo.alloc (.cells #[.int .u8 (k : Int)] 5)).alloc (.cells #[.int .u8 (d1 : Int), .bool cb, .int .u8 (k1 : Int), .bool pb, .int .u8 (s1 : Int), .int .u8 (r1 : Int), .string one] 23)).alloc (.cells #[.int .u8 (d2 : Int), .bool cb, .int .u8 7, .bool pb, .int .u8 (s1 : Int), .int .u8 (r1 : Int), .string inf] 23)) (wo.heap.size + 1) d1 cb k1 pb s1 r1 one := by
        have h := World.alloc_heap_new (wo.alloc (.cells #[.int .u8 (k : Int)] 5)) (.cells #[.int .u8 (d1 : Int), .bool cb, .int .u8 (k1 : Int), .bool pb, .int .u8 (s1 : Int), .int .u8 (r1 : Int), .string one] 23)
        rw [World.size_alloc] at h
        exact (Below.heap_alloc _ _ _ (by simp)).trans h
      have FB : FrBlk (((wo.alloc (.cells #[.int .u8 (k : Int)] 5)).alloc (.cells #[.int .u8 (d1 : Int), .bool cb, .int .u8 (k1 : Int), .bool pb, .int .u8 (s1 : Int), .int .u8 (r1 : Int), .string one] 23)).alloc (.cells #[.int .u8 (d2 : Int), .bool cb, .int .u8 7, .bool pb, .int .u8 (s1 : Int), .int .u8 (r1 : Int), .string inf] 23)) (wo.heap.size + 1 + 1) d2 cb 7 pb s1 r1 inf := by
        have h := World.alloc_heap_new ((wo.alloc (.cells #[.int .u8 (k : Int)] 5)).alloc (.cells #[.int .u8 (d1 : Int), .bool cb, .int .u8 (k1 : Int), .bool pb, .int .u8 (s1 : Int), .int .u8 (r1 : Int), .string one] 23)) (.cells #[.int .u8 (d2 : Int), .bool cb, .int .u8 7, .bool pb, .int .u8 (s1 : Int), .int .u8 (r1 : Int), .string inf] 23)
        rw [World.size_alloc, World.size_alloc] at h
        exact h
      have K3 : KAt w (((wo.alloc (.cells #[.int .u8 (k : Int)] 5)).alloc (.cells #[.int .u8 (d1 : Int), .bool cb, .int .u8 (k1 : Int), .bool pb, .int .u8 (s1 : Int), .int .u8 (r1 : Int), .string one] 23)).alloc (.cells #[.int .u8 (d2 : Int), .bool cb, .int .u8 7, .bool pb, .int .u8 (s1 : Int), .int .u8 (r1 : Int), .string inf] 23)) (wo.heap.size + 1 + 1) d2 7 s1 r1 cb pb inf := ⟨B3, FB, by simp⟩
      generalize (((wo.alloc (.cells #[.int .u8 (k : Int)] 5)).alloc (.cells #[.int .u8 (d1 : Int), .bool cb, .int .u8 (k1 : Int), .bool pb, .int .u8 (s1 : Int), .int .u8 (r1 : Int), .string one] 23)).alloc (.cells #[.int .u8 (d2 : Int), .bool cb, .int .u8 7, .bool pb, .int .u8 (s1 : Int), .int .u8 (r1 : Int), .string inf] 23)) = w3 at *
      generalize wo.heap.size + 1 + 1 = g at *
      generalize wo.heap.size + 1 = ga at *
      obtain ⟨a0, a1, a2, a3, a4, a5, a6, _⟩ := zero_cells FA
      clear FA FB B3 hs1 hB m66 m64 m12 m8 m88 hinf qa qb
      go_wp2_with fail
      refine (advEncode_any d1 k1 s1 r1 cb pb one _ _ _ (HO.out _ K3.below) (HF.out _ K3.below) (by omega) (by omega) (by omega) (by omega) (by rw [H1.out]; decide)).mono ?_
      rintro e w4 ⟨rfl, hb4⟩
      have K4 := K3.step hb4
      clear hb4 K3 a0 a1 a2 a3 a4 a5 a6
      obtain ⟨a0, a1, a2, a3, a4, a5, a6, _⟩ := zero_cells K4.blk
      obtain ⟨q1, q2, q3, q4, q5, q6, q7, q8, q9⟩ : ¬ 9223372036854775807 < one.size + one.size ∧ ¬ 9223372036854775807 < (one ++ one).size + one.size ∧ ¬ 9223372036854775807 < one.size + (⟨#[126]⟩ : ByteArray).size ∧ ¬ 9223372036854775807 < (one ++ ⟨#[126]⟩).size + one.size ∧
          ¬ 9223372036854775807 < (⟨#[125]⟩ : ByteArray).size + one.size ∧ ¬ 9223372036854775807 < (⟨#[7]⟩ : ByteArray).size + one.size ∧ ¬ 9223372036854775807 < ((⟨#[7]⟩ : ByteArray) ++ one).size + (⟨#[0]⟩ : ByteArray).size ∧ ¬ 9223372036854775807 < one.size + (⟨#[63]⟩ : ByteArray).size ∧ ¬ 9223372036854775807 < (one ++ ⟨#[63]⟩).size + one.size := by
        simp only [ByteArray.size_append, H1.out]; decide
      go_wp2_with fail
      refine (advBack_any d2 7 s1 r1 cb pb inf _ true 31 _ (HO.out _ K4.below) (HF.out _ K4.below) (by omega) (by omega) (by omega) (by omega) (by rw [H3.out]; decide) (size3 _ _ _ _ (by rw [H1.out]; decide))).mono ?_
      rintro e w5 ⟨rfl, hb5⟩
      have K5 := K4.step hb5
      clear hb5 K4 a0 a1 a2 a3 a4 a5 a6
      go_wp2_with fail
      refine (advStuff_any _ _ (HO.out _ K5.below) (HF.out _ K5.below) (size3 _ _ _ _ (by rw [H1.out]; decide))).mono ?_
      rintro e w6 ⟨rfl, hb6⟩
      have K6 := K5.step hb6
      clear hb6 K5
      go_wp2_with fail
      refine (advStuff_any _ _ (HO.out _ K6.below) (HF.out _ K6.below) (by rw [ByteArray.size_append, H1.out]; decide)).mono ?_
      rintro e w7 ⟨rfl, hb7⟩
      have K7 := K6.step hb7
      clear hb7 K6
      obtain ⟨a0, a1, a2, a3, a4, a5, a6, _⟩ := zero_cells K7.blk
      go_wp2_with fail
      refine (advTurned_any d2 7 s1 r1 cb pb inf cb _ _ _ (HO.out _ K7.below) (HF.out _ K7.below) (by omega) (by omega) (by omega) (by omega) (by rw [H3.out]; decide) (by omega) (by omega) (by omega) (by omega)).mono ?_
      rintro e w8 ⟨rfl, hb8⟩
      have K8 := K7.step hb8
      clear hb8 K7 a0 a1 a2 a3 a4 a5 a6
      go_wp2_with fail
      refine (advDecode_any _ _ _ _ (HO.out _ K8.below) (HF.out _ K8.below) (size3 _ _ _ _ (by rw [H1.out]; decide))).mono ?_
      rintro e w9 ⟨rfl, hb9⟩
      have K9 := K8.step hb9
      clear hb9 K8
      go_wp2_with fail
      refine (advDecode_any _ _ _ _ (HO.out _ K9.below) (HF.out _ K9.below) (size3 _ _ _ _ (by rw [H1.out]; decide))).mono ?_
      rintro e w10 ⟨rfl, hb10⟩
      have K10 := K9.step hb10
      clear hb10 K9 q1 q2 q3 q4 q5 q6 q7 q8 q9
      obtain ⟨a0, a1, a2, a3, a4, a5, a6, _⟩ := zero_cells K10.blk
      obtain ⟨x, hx, hx6, hx600⟩ := enc_known d2 s1 r1 cb pb inf l64 l8 l88 H3.out
      have HX := hide hx
      clear hx
      go_wp2_with fail
      refine (encode_any d2 7 s1 r1 cb pb inf cb 31 _ (HO.out _ K10.below) (HF.out _ K10.below) (by omega) (by omega) (by omega) (by omega) (by rw [H3.out]; decide)).mono ?_
      rintro e w11 ⟨rfl, hb11⟩
      rw [HX.out]
      have K11 := K10.step hb11
      clear hb11 K10 a0 a1 a2 a3 a4 a5 a6
      obtain ⟨M, hM⟩ : ∃ M, x.size - 1 = M := ⟨_, rfl⟩
      obtain ⟨M2, hM2⟩ : ∃ M2, x.size - 2 = M2 := ⟨_, rfl⟩
      have u1 : M ≤ x.size ∧ 1 ≤ M := by omega
      have u2 : M2 ≤ x.size ∧ 1 ≤ M2 := by omega
      obtain ⟨u1, v1⟩ := u1
      obtain ⟨u2, v2⟩ := u2
      have u3 : (M : Int) ≤ (x.size : Int) := by omega
      have u4 : (M2 : Int) ≤ (x.size : Int) := by omega
      have u5 : 2 ≤ x.size := by omega
      have hw : IntKind.i64.wrap ((x.size : Int) - 1) = (M : Int) := by rw [IntWalk.i64_in _ (by omega)]; omega
      have hw2 : IntKind.i64.wrap ((x.size : Int) - 2) = (M2 : Int) := by rw [IntWalk.i64_in _ (by omega)]; omega
      have hz1 : (x.extract 1 M).size ≤ 600 := by rw [ByteArray.size_extract]; omega
      have hz2 : (x.extract 1 M2).size ≤ 600 := by rw [ByteArray.size_extract]; omega
      have hz3 : (x.extract 2 x.size).size ≤ 600 := by rw [ByteArray.size_extract]; omega
      obtain ⟨y, hy⟩ : ∃ y, x.extract 1 M2 = y := ⟨_, rfl⟩
      rw [hy] at hz2
      have qc : ¬ 9223372036854775807 < y.size + one.size := by rw [H1.out]; omega
      clear hM hM2
      go_wp2_with fail
      refine (advDecode_any _ _ _ _ (HO.out _ K11.below) (HF.out _ K11.below) (by unfold maxLen; omega)).mono ?_
      rintro e w12 ⟨rfl, hb12⟩
      have K12 := K11.step hb12
      clear hb12 K11
      go_wp2_with fail
      refine (advDecode_any _ _ _ _ (HO.out _ K12.below) (HF.out _ K12.below) (by rw [ByteArray.size_append, H1.out]; unfold maxLen; omega)).mono ?_
      rintro e w13 ⟨rfl, hb13⟩
      have K13 := K12.step hb13
      clear hb13 K12
      go_wp2_with fail
      refine (advDecode_any _ _ _ _ (HO.out _ K13.below) (HF.out _ K13.below) (by unfold maxLen; omega)).mono ?_
      rintro e w14 ⟨rfl, hb14⟩
      have K14 := K13.step hb14
      clear hb14 K13
      go_wp2
      go_roundw
      case rel => exact ⟨k + 1, by omega, by go_num, K14.below⟩
      case measure => simp [intOf]; omega
    · have hk256 : ¬ (k : Int) < 256 := by omega
      clear hlt hk
      have hmk : (Instr.makeSlice 37 (.int .i64 129) (.int .i64 129)).run Tryd.prog wo = .ok (.slice (some ⟨wo.heap.size, 0, none⟩) 129 129) (wo.alloc (zeros 129)) := run_make_u8 129 (by omega) wo
      have hcv := run_zstr 129 wo
      have HZ := hide (zstr_size 129)
      have B1 := hB.alloc hB.size (zeros 129)
      have hge : w.heap.size ≤ (wo.alloc (zeros 129)).heap.size := B1.size
      generalize zstr 129 = z at *
      generalize zeros 129 = o at *
      generalize wo.alloc o = w1 at *
      go_wp2
      have FL := World.alloc_heap_new w1 (.cells #[.int .u8 5, .bool false, .int .u8 5, .bool false, .int .u8 0, .int .u8 0, .string z] 23)
      have L0 : LAt w ((w1.alloc (.cells #[.int .u8 5, .bool false, .int .u8 5, .bool false, .int .u8 0, .int .u8 0, .string z] 23)).alloc numsO) w1.heap.size (w1.heap.size + 1) := by
        refine ⟨(B1.alloc hge _).alloc (by simp; omega) _, ⟨z, (Below.heap_alloc _ _ _ (by simp)).trans FL, by rw [HZ.out]; decide, by rw [HZ.out]; decide⟩, fun j hj => ?_, hge, by omega, by simp; omega, by simp⟩
        have := nums_cell (w1.alloc (.cells #[.int .u8 5, .bool false, .int .u8 5, .bool false, .int .u8 0, .int .u8 0, .string z] 23)) j hj
        rw [World.size_alloc] at this
        exact this
      clear FL hmk hcv B1 hB hge
      unfold numsO at L0
      generalize ((w1.alloc (.cells #[.int .u8 5, .bool false, .int .u8 5, .bool false, .int .u8 0, .int .u8 0, .string z] 23)).alloc (.cells #[.int .i64 (-9223372036854775808), .int .i64 0, .int .i64 127, .int .i64 128, .int .i64 129, .int .i64 9223372036854775807] 3)) = w3 at *
      generalize w1.heap.size + 1 = a at *
      generalize w1.heap.size = g at *
      go_loopw [173] (fun i wr => ∃ j : Nat, j ≤ 6 ∧ i = .int .i64 (j : Int) ∧ LAt w wr g a) (fun i _ => 6 - (intOf i).toNat)
      case atStart => exact ⟨0, by omega, rfl, L0⟩
      case round =>
        obtain ⟨j, hj, rfl, hL⟩ := hrel
        clear L0
        by_cases hjl : j < 6
        · have c0 := hL.cells j hjl
          have e4 : (j : Int) < 6 := by omega
          generalize nums.getD j 0 = v at *
          obtain ⟨i, hb, hi1, hi2⟩ := hL.blk
          obtain ⟨a0, a1, a2, a3, a4, a5, a6, _⟩ := zero_cells hb
          go_wp2_with fail
          refine (advEncode_any 5 5 0 0 false false i true v _ (HO.out _ hL.below) (HF.out _ hL.below) (by omega) (by omega) (by omega) (by omega) (by unfold maxLen; omega)).mono ?_
          rintro e w5 ⟨rfl, hb5⟩
          have L5 := hL.step hb5
          have hb' : FrBlk w5 g 5 false 5 false 0 0 i := (hb5.block _ hL.lt).trans hb
          clear hb5 hb a0 a1 a2 a3 a4 a5 a6 c0 hL
          obtain ⟨a0, a1, a2, a3, a4, a5, a6, _, _, _, _, _, _, f6⟩ := zero_cells hb'
          have hi3 : (128 : Int) ≤ (i.size : Int) := by omega
          go_wp2
          go_roundw
          case rel => exact ⟨j + 1, hjl, by go_num, L5.cut hb' hi1⟩
          case measure => simp [intOf]; omega
        · obtain rfl : j = 6 := by omega
          have B6 := hL.below
          clear hL
          go_wp2_with fail
          refine (advDecode_any ⟨#[]⟩ true 31 _ (HO.out _ B6) (HF.out _ B6) (by decide)).mono ?_
          rintro e w5 ⟨rfl, hb5⟩
          have B7 := below_step B6 (Nat.le_refl _) hb5
          clear hb5 B6
          go_wp2_with fail
          refine (advDecode_any ⟨#[7, 63]⟩ true 31 _ (HO.out _ B7) (HF.out _ B7) (by decide)).mono ?_
          rintro e w6 ⟨rfl, hb6⟩
          have B8 := below_step B7 (Nat.le_refl _) hb6
          clear hb6 B7
          go_wp2_with fail
          refine (works_any _ (HO.out _ B8) (HF.out _ B8)).mono ?_
          rintro e w7 ⟨rfl, hb7⟩
          have B9 := below_step B8 (Nat.le_refl _) hb7
          clear hb7 B8
          go_wp2
          go_ret
          exact ⟨rfl, B9⟩
end Go.Proofs.YtflooblecbhcoaaDoor
