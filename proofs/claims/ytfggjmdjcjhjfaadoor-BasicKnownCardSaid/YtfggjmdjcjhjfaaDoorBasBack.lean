/- The law BasicBack: there and back. -/
import Derived.Test.YtfggjmdjcjhjfaaDoorBasLaw
namespace Go.Proofs.YtfggjmdjcjhjfaaDoor
open Go.RowKit
set_option linter.unusedVariables false
set_option linter.unusedSimpArgs false

/-- A body between two flags. -/
def flg (B : ByteArray) : ByteArray := st [249] ++ B ++ st [249]
theorem flg_size (B : ByteArray) : (flg B).size = B.size + 2 := by unfold flg; rw [ByteArray.size_append, ByteArray.size_append, st_size]; simp only [List.length_cons, List.length_nil]; omega
theorem bl_flag : bl (st [249]) = [249] := bl_st (bytes_cons (by omega) bytes_nil)
theorem bl_flg (B : ByteArray) : bl (flg B) = 249 :: (bl B ++ [249]) := by unfold flg; rw [bl_append, bl_append, bl_flag]; rfl
theorem flg_first (B : ByteArray) : oc (flg B) 0 = 249 := by unfold oc; rw [bl_flg]; rfl
theorem flg_last (B : ByteArray) : oc (flg B) ((flg B).size - 1) = 249 := by
  unfold oc
  rw [bl_flg, flg_size, show B.size + 2 - 1 = (249 :: bl B).length by simp only [List.length_cons, bl_length]; omega, ← List.cons_append]
  simp only [List.getD]
  rw [List.getElem?_append_right (Nat.le_refl _)]
  simp
theorem flg_inner (B : ByteArray) : (flg B).extract 1 ((flg B).size - 1) = B := by
  apply bl_inj
  rw [bl_extract, bl_flg, flg_size]
  rw [show B.size + 2 - 1 - 1 = (bl B).length by rw [bl_length]; omega]
  exact List.take_left' rfl
/-- Cut short. -/
theorem flg_cut (B : ByteArray) (j : Nat) (h : j ≤ B.size) : (flg B).extract 1 (j + 1) = B.extract 0 j := by
  apply bl_inj
  rw [bl_extract, bl_extract, bl_flg, List.drop_zero]
  rw [show j + 1 - 1 = j by omega, Nat.sub_zero]
  show (bl B ++ [249]).take j = _
  rw [List.take_append_of_le_length (by rw [bl_length]; exact h)]
theorem flg_more (B : ByteArray) : (flg B).extract 1 (flg B).size = B ++ st [249] := by
  apply bl_inj
  rw [bl_extract, bl_append, bl_flg, bl_flag, flg_size]
  rw [show B.size + 2 - 1 = (bl B ++ [249]).length by rw [List.length_append, bl_length, List.length_singleton]; omega]
  exact List.take_length

/-- What Encode answers, and what Decode makes of it. -/
theorem encR4_back (d k s r : Nat) (c p : Bool) (i : ByteArray) (b : Bool) (n1 : Int) : ∃ (x : ByteArray) (e : Int), encR4 d c k p s r i b n1 = .returned (.tuple #[.string x, .int .i64 e]) ∧ x.size ≤ 600 ∧
    (e = 0 → 6 ≤ x.size ∧ oc x 0 = 249 ∧ oc x (x.size - 1) = 249 ∧ decT4 (x.extract 1 (x.size - 1)) b n1 = .returned (.tuple #[frV d c k p s r i, .int .i64 0])) := by
  unfold encR4
  by_cases hm : mayOk d c k s r i = false ∨ eaA d (c == b) = 249
  · rw [if_pos hm]; exact ⟨_, _, rfl, by decide, fun h => by simp at h⟩
  rw [if_neg hm]
  have hm1 : mayOk d c k s r i = true := by
    cases h : mayOk d c k s r i with
    | true => rfl
    | false => exact absurd (.inl h) hm
  have h9 : eaA d (c == b) ≠ 249 := fun h => hm (.inr h)
  by_cases hr : room n1 < (i.size : Int)
  · rw [if_pos hr]; exact ⟨_, _, rfl, by decide, fun h => by simp at h⟩
  rw [if_neg hr]
  have hi2 : i.size ≤ 128 := by unfold room at hr; omega
  obtain ⟨q1, q2, q3⟩ := dec_body d k s r c p i b n1 hm1 h9 hr
  have hl : 1 ≤ (lenL i.size).length ∧ (lenL i.size).length ≤ 2 := by rw [lenL_len]; split <;> omega
  have hsz := flg_size (bodyF d c k p s r i b)
  have h0 := flg_first (bodyF d c k p s r i b)
  have h1 := flg_last (bodyF d c k p s r i b)
  have h2 := flg_inner (bodyF d c k p s r i b)
  refine ⟨flg (bodyF d c k p s r i b), _, rfl, by omega, fun _ => ⟨by omega, h0, h1, ?_⟩⟩
  rw [h2]
  exact q1
/-- What Decode answers, and what Encode makes of it. -/
theorem decR4_back (s : ByteArray) (b : Bool) (n1 : Int) : ∃ d c k p s' r i e, decT4 s b n1 = .returned (.tuple #[frV d c k p s' r i, .int .i64 e]) ∧ d ≤ 255 ∧ k ≤ 255 ∧ s' ≤ 255 ∧ r ≤ 255 ∧ (e = 0 → i.size ≤ 128) ∧
    (e ≠ 0 → d = 0 ∧ c = false ∧ k = 0 ∧ p = false ∧ s' = 0 ∧ r = 0 ∧ i = ⟨#[]⟩) ∧ (e = 0 → encR4 d c k p s' r i b n1 = .returned (.tuple #[.string (((⟨#[249]⟩ : ByteArray) ++ s) ++ ⟨#[249]⟩), .int .i64 0])) := by
  obtain ⟨d, c, k, p, s', r, i, e, hR, g0, g1, g2, g3, _, hz⟩ := decT4_form s b n1
  refine ⟨d, c, k, p, s', r, i, e, hR, g0, g1, g2, g3, ?_, hz, ?_⟩
  · intro he
    subst he
    have := (dec_only hR).2.2.2
    unfold room at this
    omega
  · intro he
    subst he
    obtain ⟨h1, h2, h3, h4⟩ := dec_only hR
    unfold encR4
    rw [if_neg (by rw [h2]; simp; exact h3), if_neg h4, ← h1]
    rfl

set_option maxHeartbeats 4000000 in
theorem basBack_any (d k s' r : Nat) (c p : Bool) (i : ByteArray) (s : ByteArray) (b : Bool) (n1 : Int) (w : World) (hh : Octs w) (hf : Half w) (h0 : d ≤ 255) (h1 : k ≤ 255) (h2 : s' ≤ 255) (h3 : r ≤ 255) (hi : i.size ≤ maxLen) (hs : s.size ≤ maxLen) :
    Calls Tryd.prog 5 #[.agg #[.int .u8 (d : Int), .bool c, .int .u8 (k : Int), .bool p, .int .u8 (s' : Int), .int .u8 (r : Int), .string i], .string s, .bool b, .int .i64 n1] w fun e w' => e = .returned (.bool true) ∧ Below w.heap.size w w' := by
  have HI := hide hi
  unfold maxLen at hi hs
  have HO := hide (fun W (hb : Below w.heap.size w W) => hh.below hb)
  have HF := hide (fun W (hb : Below w.heap.size w W) => hf.below hb)
  clear hh hf
  have B0 := (Below.refl w.heap.size w).alloc (Nat.le_refl _) (.cells #[.int .u8 (d : Int), .bool c, .int .u8 (k : Int), .bool p, .int .u8 (s' : Int), .int .u8 (r : Int), .string i] 23)
  have F0 : FrBlk (w.alloc (.cells #[.int .u8 (d : Int), .bool c, .int .u8 (k : Int), .bool p, .int .u8 (s' : Int), .int .u8 (r : Int), .string i] 23)) w.heap.size d c k p s' r i := World.alloc_heap_new w _
  have hlt : w.heap.size < (w.alloc (.cells #[.int .u8 (d : Int), .bool c, .int .u8 (k : Int), .bool p, .int .u8 (s' : Int), .int .u8 (r : Int), .string i] 23)).heap.size := by simp
  by_cases h300 : 300 < i.size
  · go_enter Tryd.func5, Tryd.ntmps5
    go_wp2_with fail
    refine (works_any _ (HO.out _ B0) (HF.out _ B0)).mono ?_
    rintro e w2 ⟨rfl, hb2⟩
    have B2 := below_step B0 (Nat.le_refl _) hb2
    clear hb2 B0 F0
    go_wp2
    go_ret
    exact ⟨rfl, B2⟩
  by_cases h600 : 400 < s.size
  · go_enter Tryd.func5, Tryd.ntmps5
    go_wp2_with fail
    refine (works_any _ (HO.out _ B0) (HF.out _ B0)).mono ?_
    rintro e w2 ⟨rfl, hb2⟩
    have B2 := below_step B0 (Nat.le_refl _) hb2
    clear hb2 B0 F0
    go_wp2
    go_ret
    exact ⟨rfl, B2⟩
  obtain ⟨x, e, hR, hxs, hX⟩ := encR4_back d k s' r c p i b n1
  obtain ⟨d2, c2, k2, p2, s2, r2, i2, e2, hD, g0, g1, g2, g3, g6, hz2, hE2⟩ := decR4_back s b n1
  have HR := hide hR
  have HD := hide hD
  clear hR hD
  go_enter Tryd.func5, Tryd.ntmps5
  go_wp2_with fail
  generalize w.alloc (.cells #[.int .u8 (d : Int), .bool c, .int .u8 (k : Int), .bool p, .int .u8 (s' : Int), .int .u8 (r : Int), .string i] 23) = w1 at *
  refine (bencode_any d k s' r c p i b n1 _ (HO.out _ B0) (HF.out _ B0) h0 h1 h2 h3 (by unfold maxLen; omega)).mono ?_
  rintro e' w2 ⟨rfl, hb2⟩
  rw [HR.out]
  have B2 := below_step B0 (Nat.le_refl _) hb2
  have F2 : FrBlk w2 w.heap.size d c k p s' r i := (hb2.block _ hlt).trans F0
  have hlt2 := Nat.lt_of_lt_of_le hlt hb2.size
  clear hb2 F0 B0 hlt
  by_cases he : e = 0
  · obtain ⟨hx5, hx0, hxM, hdx⟩ := hX he
    subst he
    have HX := hide hdx
    clear hdx hX
    obtain ⟨M, hM⟩ : ∃ M, x.size - 1 = M := ⟨_, rfl⟩
    rw [hM] at HX hxM
    have hx5' : ¬ (x.size : Int) < 6 := by omega
    have hM1 : M < x.size := by omega
    have hx1 : 0 < x.size := by omega
    have k8 : x[0].toNat = 249 := (oc_at x 0 hx1).trans hx0
    have k9 : x[M].toNat = 249 := (oc_at x M hM1).trans hxM
    have hM2 : (M : Int) < (x.size : Int) := by omega
    have hM3 : M ≤ x.size := by omega
    have hM4 : 1 ≤ M := by omega
    have hw : IntKind.i64.wrap ((x.size : Int) - 1) = (M : Int) := by rw [IntWalk.i64_in _ (by omega)]; omega
    have hY : (x.extract 1 M).size ≤ 600 := by rw [ByteArray.size_extract]; omega
    clear hM
    go_wp2_with fail
    refine (bdecode_any _ b n1 _ (HO.out _ B2) (HF.out _ B2) (by omega)).mono ?_
    rintro e' w3 ⟨rfl, hb3⟩
    rw [HX.out]
    unfold frV
    have B3 := below_step B2 (Nat.le_refl _) hb3
    have F3 : FrBlk w3 w.heap.size d c k p s' r i := (hb3.block _ hlt2).trans F2
    have hlt3 := Nat.lt_of_lt_of_le hlt2 hb3.size
    have B4 := B3.alloc B3.size (.cells #[.int .u8 (d : Int), .bool c, .int .u8 (k : Int), .bool p, .int .u8 (s' : Int), .int .u8 (r : Int), .string i] 23)
    have F4 : FrBlk (w3.alloc (.cells #[.int .u8 (d : Int), .bool c, .int .u8 (k : Int), .bool p, .int .u8 (s' : Int), .int .u8 (r : Int), .string i] 23)) w3.heap.size d c k p s' r i := World.alloc_heap_new w3 _
    have F4' : FrBlk (w3.alloc (.cells #[.int .u8 (d : Int), .bool c, .int .u8 (k : Int), .bool p, .int .u8 (s' : Int), .int .u8 (r : Int), .string i] 23)) w.heap.size d c k p s' r i := (Below.heap_alloc _ _ _ hlt3).trans F3
    obtain ⟨u0, u1, u2, u3, u4, u5, u6, _⟩ := zero_cells F4
    obtain ⟨v0, v1, v2, v3, v4, v5, v6, _⟩ := zero_cells F4'
    clear hb3 F2 B2 F3 B3 F4 F4'
    go_wp2_with fail
    clear u0 u1 u2 u3 u4 u5 u6 v0 v1 v2 v3 v4 v5 v6
    refine (bdecode_any s b n1 _ (HO.out _ B4) (HF.out _ B4) (by omega)).mono ?_
    rintro e' w4 ⟨rfl, hb4⟩
    rw [HD.out]
    unfold frV
    have B9 := below_step B4 (Nat.le_refl _) hb4
    have B5 := B9.alloc B9.size (.cells #[.int .u8 (d2 : Int), .bool c2, .int .u8 (k2 : Int), .bool p2, .int .u8 (s2 : Int), .int .u8 (r2 : Int), .string i2] 23)
    have F5 : FrBlk (w4.alloc (.cells #[.int .u8 (d2 : Int), .bool c2, .int .u8 (k2 : Int), .bool p2, .int .u8 (s2 : Int), .int .u8 (r2 : Int), .string i2] 23)) w4.heap.size d2 c2 k2 p2 s2 r2 i2 := World.alloc_heap_new w4 _
    obtain ⟨c0, c1, c2', c3, c4, c5, c6, _⟩ := zero_cells F5
    clear hb4 B9 F5 B4
    by_cases he2 : e2 = 0
    · have HE := hide (hE2 he2)
      subst he2
      have hi9 := g6 rfl
      clear hz2 hE2
      go_wp2_with fail
      refine (bencode_any d2 k2 s2 r2 c2 p2 i2 b n1 _ (HO.out _ B5) (HF.out _ B5) g0 g1 g2 g3 (by unfold maxLen; omega)).mono ?_
      rintro e' w6 ⟨rfl, hb6⟩
      rw [HE.out]
      have B6 := below_step B5 (Nat.le_refl _) hb6
      clear hb6 B5
      have k1 : ¬ 9223372036854775807 < (⟨#[249]⟩ : ByteArray).size + s.size := by rw [show (⟨#[249]⟩ : ByteArray).size = 1 from rfl]; omega
      have k2 : ¬ 9223372036854775807 < (((⟨#[249]⟩ : ByteArray) ++ s)).size + (⟨#[249]⟩ : ByteArray).size := by rw [ByteArray.size_append, show (⟨#[249]⟩ : ByteArray).size = 1 from rfl]; omega
      go_wp2_with fail
      refine (works_any _ (HO.out _ B6) (HF.out _ B6)).mono ?_
      rintro e' w7 ⟨rfl, hb7⟩
      have B7 := below_step B6 (Nat.le_refl _) hb7
      clear hb7 B6
      go_wp2
      go_ret
      exact ⟨rfl, B7⟩
    · obtain ⟨z0, z1, z2, z3, z4, z5, z6⟩ := hz2 he2
      subst z0 z1 z2 z3 z4 z5 z6
      have t2 : (e2 != 0) = true := by rw [bne_iff_ne]; exact he2
      clear hz2 hE2
      go_wp2_with fail
      refine (works_any _ (HO.out _ B5) (HF.out _ B5)).mono ?_
      rintro e' w7 ⟨rfl, hb7⟩
      have B7 := below_step B5 (Nat.le_refl _) hb7
      clear hb7 B5
      go_wp2
      go_ret
      exact ⟨rfl, B7⟩
  · have t1 : (e == 0) = false := by rw [beq_eq_false_iff_ne]; exact he
    clear hX F2
    go_wp2_with fail
    refine (bdecode_any s b n1 _ (HO.out _ B2) (HF.out _ B2) (by omega)).mono ?_
    rintro e' w4 ⟨rfl, hb4⟩
    rw [HD.out]
    unfold frV
    have B9 := below_step B2 (Nat.le_refl _) hb4
    have B5 := B9.alloc B9.size (.cells #[.int .u8 (d2 : Int), .bool c2, .int .u8 (k2 : Int), .bool p2, .int .u8 (s2 : Int), .int .u8 (r2 : Int), .string i2] 23)
    have F5 : FrBlk (w4.alloc (.cells #[.int .u8 (d2 : Int), .bool c2, .int .u8 (k2 : Int), .bool p2, .int .u8 (s2 : Int), .int .u8 (r2 : Int), .string i2] 23)) w4.heap.size d2 c2 k2 p2 s2 r2 i2 := World.alloc_heap_new w4 _
    obtain ⟨c0, c1, c2', c3, c4, c5, c6, _⟩ := zero_cells F5
    clear hb4 B9 F5 B2
    by_cases he2 : e2 = 0
    · have HE := hide (hE2 he2)
      subst he2
      have hi9 := g6 rfl
      clear hz2 hE2
      go_wp2_with fail
      refine (bencode_any d2 k2 s2 r2 c2 p2 i2 b n1 _ (HO.out _ B5) (HF.out _ B5) g0 g1 g2 g3 (by unfold maxLen; omega)).mono ?_
      rintro e' w6 ⟨rfl, hb6⟩
      rw [HE.out]
      have B6 := below_step B5 (Nat.le_refl _) hb6
      clear hb6 B5
      have k1 : ¬ 9223372036854775807 < (⟨#[249]⟩ : ByteArray).size + s.size := by rw [show (⟨#[249]⟩ : ByteArray).size = 1 from rfl]; omega
      have k2 : ¬ 9223372036854775807 < (((⟨#[249]⟩ : ByteArray) ++ s)).size + (⟨#[249]⟩ : ByteArray).size := by rw [ByteArray.size_append, show (⟨#[249]⟩ : ByteArray).size = 1 from rfl]; omega
      go_wp2_with fail
      refine (works_any _ (HO.out _ B6) (HF.out _ B6)).mono ?_
      rintro e' w7 ⟨rfl, hb7⟩
      have B7 := below_step B6 (Nat.le_refl _) hb7
      clear hb7 B6
      go_wp2
      go_ret
      exact ⟨rfl, B7⟩
    · obtain ⟨z0, z1, z2, z3, z4, z5, z6⟩ := hz2 he2
      subst z0 z1 z2 z3 z4 z5 z6
      have t2 : (e2 != 0) = true := by rw [bne_iff_ne]; exact he2
      clear hz2 hE2
      go_wp2_with fail
      refine (works_any _ (HO.out _ B5) (HF.out _ B5)).mono ?_
      rintro e' w7 ⟨rfl, hb7⟩
      have B7 := below_step B5 (Nat.le_refl _) hb7
      clear hb7 B5
      go_wp2
      go_ret
      exact ⟨rfl, B7⟩

end Go.Proofs.YtfggjmdjcjhjfaaDoor
