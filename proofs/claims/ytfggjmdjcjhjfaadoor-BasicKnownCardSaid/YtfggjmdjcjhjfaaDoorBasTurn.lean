/- The law BasicTurned: turned bits are told. -/
import Derived.Test.YtfggjmdjcjhjfaaDoorBasBack
namespace Go.Proofs.YtfggjmdjcjhjfaaDoor
open Go.RowKit
set_option linter.unusedVariables false
set_option linter.unusedSimpArgs false

/-- A row's octets. -/
def RowB (w : World) (g : Nat) (l : List Nat) : Prop := ∀ j, j < l.length → w.cell? ⟨g, j, none⟩ = some (.int .u8 (l.getD j 0 : Nat)) ∧ w.frozen? ⟨g, j, none⟩ = false
theorem RowB.set {w : World} {g : Nat} {l : List Nat} (h : RowB w g l) {j : Nat} (hj : j < l.length) (v : Nat) : RowB (w.setCell ⟨g, j, none⟩ (.int .u8 (v : Int))) g (l.set j v) := by
  intro q hq
  rw [List.length_set] at hq
  obtain ⟨h1, h2⟩ := h q hq
  refine ⟨?_, by rw [World.frozen?_setCell]; exact h2⟩
  by_cases he : j = q
  · subst he
    rw [World.cell?_setCell_same _ _ _ h1]
    simp [List.getD, hj]
  · rw [World.cell?_setCell_other _ _ _ _ (by simp [he]), h1]
    simp only [List.getD, List.getElem?_set_ne he]
theorem RowB.run {w : World} {g n c : Nat} {l : List Nat} (h : RowB w g l) (hn : l.length = n) : (convert 34 9 (.slice (some ⟨g, 0, none⟩) n c)).run Tryd.prog w = .ok (.string (st l)) w :=
  run_st g n c l w hn fun i hi => by rw [Nat.zero_add]; exact (h i (by omega)).1
theorem bytes_set {l : List Nat} (h : Bytes l) (j v : Nat) (hv : v < 256) : Bytes (l.set j v) := fun x hx => by
  rcases List.mem_or_eq_of_mem_set hx with h1 | h1
  · exact h x h1
  · omega
theorem getD_set (l : List Nat) (j q v : Nat) (hj : j < l.length) : (l.set j v).getD q 0 = if j = q then v else l.getD q 0 := by
  by_cases h : j = q
  · subst h; simp [List.getD, hj]
  · rw [if_neg h]; simp only [List.getD, List.getElem?_set_ne h]

/-- Pick: a number brought into bounds. -/
theorem pick_num (i n : Int) (h : 0 < n) (hn : n ≤ 4611686018427387904) (h1 : -9223372036854775808 ≤ i) (h2 : i ≤ 9223372036854775807) :
    (-n < i.tmod n ∧ i.tmod n < n) ∧ i.tmod n % n = i % n ∧ 0 ≤ i.tmod n + n := by
  have e1 := Int.tmod_eq_emod (a := i) (b := n)
  have e2 := Int.emod_nonneg i (b := n) (by omega)
  have e3 := Int.emod_lt_of_pos i h
  have e4 : (n.natAbs : Int) = n := by omega
  have hc : i.tmod n = i % n ∨ (i.tmod n = i % n - n ∧ i % n ≠ 0) := by
    rw [e1]
    split
    · left; omega
    · rename_i hd
      right
      exact ⟨by omega, fun h0 => hd (Or.inr (Int.dvd_of_emod_eq_zero h0))⟩
  refine ⟨by rcases hc with h | ⟨h, _⟩ <;> omega, ?_, by rcases hc with h | ⟨h, _⟩ <;> omega⟩
  rcases hc with h | ⟨h, _⟩
  · rw [h, Int.emod_emod]
  · rw [h, Int.sub_emod_right, Int.emod_emod]

set_option maxHeartbeats 400000 in
theorem pick_any (i n : Int) (w : World) (h : 0 < n) (hn : n ≤ 4611686018427387904) (h1 : -9223372036854775808 ≤ i) (h2 : i ≤ 9223372036854775807) :
    Calls Tryd.prog 15 #[.int .i64 i, .int .i64 n] w fun e w' => e = .returned (.int .i64 (i % n)) ∧ w = w' := by
  obtain ⟨⟨p1, p2⟩, p3, p4⟩ := pick_num i n h hn h1 h2
  have h0 : ¬ n ≤ 0 := by omega
  have P3 := hide p3
  clear p3
  go_enter Tryd.func15, Tryd.ntmps15
  go_wp2
  go_ret
  exact ⟨ret_int P3.out, rfl⟩

theorem rowB_of {w : World} {g : Nat} {s : ByteArray} (hc : ∀ j, (hj : j < s.size) → w.cell? ⟨g, j, none⟩ = some (.int .u8 (s[j].toNat : Nat)) ∧ w.frozen? ⟨g, j, none⟩ = false) : RowB w g (bl s) := by
  intro j hj
  rw [bl_length] at hj
  obtain ⟨h1, h2⟩ := hc j hj
  exact ⟨by rw [h1, bl_getD s j hj], h2⟩

/-- What Encode answers with room for 128 bytes. -/
theorem turn4_form (d k s r : Nat) (c p : Bool) (i : ByteArray) (b : Bool) :
    (∃ x e, encR4 d c k p s r i b 128 = .returned (.tuple #[.string x, .int .i64 e]) ∧ (e != 0) = true) ∨
    (encR4 d c k p s r i b 128 = .returned (.tuple #[.string (flg (bodyF d c k p s r i b)), .int .i64 0]) ∧ i.size ≤ 128 ∧ ptsB (bodyF d c k p s r i b) = true ∧ (bodyF d c k p s r i b).size = 4 + i.size / 128 + i.size) := by
  unfold encR4
  by_cases hm : mayOk d c k s r i = false ∨ eaA d (c == b) = 249
  · rw [if_pos hm]; exact .inl ⟨_, _, rfl, rfl⟩
  rw [if_neg hm]
  have hm1 : mayOk d c k s r i = true := by
    cases h : mayOk d c k s r i with
    | true => rfl
    | false => exact absurd (.inl h) hm
  by_cases hr : room 128 < (i.size : Int)
  · rw [if_pos hr]; exact .inl ⟨_, _, rfl, rfl⟩
  rw [if_neg hr]
  have hi2 : i.size ≤ 128 := by unfold room at hr; omega
  obtain ⟨q1, q2, q3⟩ := dec_body d k s r c p i b 128 hm1 (fun h => hm (.inr h)) hr
  refine .inr ⟨rfl, hi2, q2, ?_⟩
  rw [q3, lenL_len]
  split <;> omega
theorem pts_other2 {t u : ByteArray} (h : ptsB t = true) (h2 : 4 ≤ u.size → oc u 2 = oc t 2 ∧ oc u 3 = oc t 3) (hs : u.size ≠ t.size) : ptsB u = false := by
  by_cases h4 : 4 ≤ u.size
  · exact pts_other h (h2 h4).1 (fun _ => (h2 h4).2) hs
  · unfold ptsB; rw [decide_eq_false h4]; rfl

theorem turn_cut {X Y : ByteArray} (cut : Int) (b : Bool) (hc0 : 0 ≤ cut) (hy : 4 ≤ Y.size) (hxs : X.size = Y.size + 2) (hC : ∀ j, j ≤ Y.size → X.extract 1 (j + 1) = Y.extract 0 j) (hM : X.extract 1 X.size = Y ++ st [249]) (hP : ptsB Y = true) :
    ∃ cq N3 M1 Q : Nat, (X.size : Int) - 3 = (N3 : Int) ∧ cut.tmod (N3 : Int) = (cq : Int) ∧ ((M1 : Int) - (cq : Int) = (Q : Int)) ∧ (X.size : Int) - 1 - 1 = (M1 : Int) ∧ 1 ≤ Q ∧ Q ≤ X.size ∧ (Q : Int) ≤ (X.size : Int) ∧ (1 : Int) ≤ (Q : Int) ∧ decT4 (X.extract 1 Q) b 128 = bad 40 ∧ decT4 (X.extract 1 X.size) b 128 = bad 40 ∧ 0 < N3 := by
  have h1 : 0 < ((Y.size - 1 : Nat) : Int) := by omega
  have h2 := Int.emod_nonneg cut (show ((Y.size - 1 : Nat) : Int) ≠ 0 by omega)
  have h3 := Int.emod_lt_of_pos cut h1
  have h4 : cut.tmod ((Y.size - 1 : Nat) : Int) = cut % ((Y.size - 1 : Nat) : Int) := Int.tmod_eq_emod_of_nonneg hc0
  refine ⟨(cut % ((Y.size - 1 : Nat) : Int)).toNat, Y.size - 1, Y.size, Y.size - (cut % ((Y.size - 1 : Nat) : Int)).toNat, by omega, by rw [h4]; omega, by omega, by omega, by omega, by omega, by omega, by omega, ?_, ?_, by omega⟩
  · obtain ⟨j, hj⟩ : ∃ j, Y.size - (cut % ((Y.size - 1 : Nat) : Int)).toNat = j + 1 := ⟨Y.size - (cut % ((Y.size - 1 : Nat) : Int)).toNat - 1, by omega⟩
    have hjl : j < Y.size := by omega
    rw [hj, hC j (by omega)]
    refine dec_none b 128 (pts_other2 hP (fun h => ?_) (by rw [front_size Y j (by omega)]; omega))
    rw [front_size Y j (by omega)] at h
    exact ⟨oc_front Y j 2 (by omega) (by omega), oc_front Y j 3 (by omega) (by omega)⟩
  · rw [hM]
    have ho : ∀ j, j < Y.size → oc (Y ++ st [249]) j = oc Y j := by
      intro j hj
      unfold oc
      rw [bl_append]
      simp only [List.getD]
      rw [List.getElem?_append_left (by rw [bl_length]; exact hj)]
    exact dec_none b 128 (pts_other2 hP (fun h => ⟨ho 2 (by omega), ho 3 (by omega)⟩) (by rw [ByteArray.size_append, st_size]; simp only [List.length_cons, List.length_nil]; omega))
theorem other_block (w : World) (a : Addr) (v : Value) {j : Nat} (h : j ≠ a.block) : (w.setCell a v).heap[j]? = w.heap[j]? := by
  simp [World.setCell, Array.getElem?_modify]
  intro e
  exact absurd e.symm h
theorem set_getD (l : List Nat) (j : Nat) (h : j < l.length) : l.set j (l.getD j 0) = l := by
  apply List.ext_getElem
  · simp
  · intro n h1 h2
    by_cases e : j = n
    · subst e
      simp [List.getD, h]
    · rw [List.getElem_set_ne e]
theorem turn_bits (bts frm : Int) (hb0 : 0 ≤ bts) (hb1 : bts ≤ 255) (hbz : ¬ bts = 0) (hf0 : 0 ≤ frm) : ∃ T : Nat, IntKind.u16.wrap (bts * 2 ^ (frm % 8).toNat) = (T : Int) ∧ T < 65536 ∧ T ≠ 0 := by
  have h8 : (frm % 8).toNat < 8 := by omega
  generalize (frm % 8).toNat = n at *
  have hp : ∀ n : Nat, n < 8 → 1 ≤ (2 : Int) ^ n ∧ (2 : Int) ^ n ≤ 128 := by decide
  obtain ⟨p1, p2⟩ := hp n h8
  generalize (2 : Int) ^ n = P at *
  have q1 : bts * P ≤ 255 * 128 := Int.mul_le_mul hb1 p2 (by omega) (by omega)
  have q2 : 1 * 1 ≤ bts * P := Int.mul_le_mul (by omega) p1 (by omega) (by omega)
  refine ⟨(bts * P).toNat, ?_, by omega, by omega⟩
  rw [IntWalk.u16_in _ (by omega)]
  omega

set_option maxRecDepth 100000 in
set_option maxHeartbeats 8000000 in
theorem basTurned_any (d k s r : Nat) (c p : Bool) (i : ByteArray) (b : Bool) (at' bts frm cut : Int) (w : World) (hh : Octs w) (hf : Half w) (h0 : d ≤ 255) (h1 : k ≤ 255) (h2 : s ≤ 255) (h3 : r ≤ 255) (hi : i.size ≤ maxLen)
    (ha0 : -9223372036854775808 ≤ at') (ha1 : at' ≤ 9223372036854775807) (hb0 : 0 ≤ bts) (hb1 : bts ≤ 255) (hf0 : 0 ≤ frm) (hf1 : frm ≤ 255) (hc0 : 0 ≤ cut) (hc1 : cut ≤ 255) :
    Calls Tryd.prog 6 #[.agg #[.int .u8 (d : Int), .bool c, .int .u8 (k : Int), .bool p, .int .u8 (s : Int), .int .u8 (r : Int), .string i], .bool b, .int .i64 at', .int .u8 bts, .int .u8 frm, .int .u8 cut] w fun e w' => e = .returned (.bool true) ∧ Below w.heap.size w w' := by
  unfold maxLen at hi
  have HO := hide (fun W (hb : Below w.heap.size w W) => hh.below hb)
  have HF := hide (fun W (hb : Below w.heap.size w W) => hf.below hb)
  clear hh hf
  have B0 := (Below.refl w.heap.size w).alloc (Nat.le_refl _) (.cells #[.int .u8 (d : Int), .bool c, .int .u8 (k : Int), .bool p, .int .u8 (s : Int), .int .u8 (r : Int), .string i] 23)
  have F0 : FrBlk (w.alloc (.cells #[.int .u8 (d : Int), .bool c, .int .u8 (k : Int), .bool p, .int .u8 (s : Int), .int .u8 (r : Int), .string i] 23)) w.heap.size d c k p s r i := World.alloc_heap_new w _
  have hlt : w.heap.size < (w.alloc (.cells #[.int .u8 (d : Int), .bool c, .int .u8 (k : Int), .bool p, .int .u8 (s : Int), .int .u8 (r : Int), .string i] 23)).heap.size := by simp
  rcases turn4_form d k s r c p i b with ⟨x, e, hE, he⟩ | ⟨hE, hi2, hpt, hsz⟩
  · have HE := hide hE
    clear hE
    go_enter Tryd.func6, Tryd.ntmps6
    go_wp2_with fail
    refine (bencode_any d k s r c p i b 128 _ (HO.out _ B0) (HF.out _ B0) h0 h1 h2 h3 (by unfold maxLen; omega)).mono ?_
    rintro e' w2 ⟨rfl, hb2⟩
    rw [HE.out]
    have B2 := below_step B0 (Nat.le_refl _) hb2
    clear hb2 B0 F0
    go_wp2_with fail
    refine (works_any _ (HO.out _ B2) (HF.out _ B2)).mono ?_
    rintro e w9 ⟨rfl, hb9⟩
    have B9 := below_step B2 (Nat.le_refl _) hb9
    clear hb9
    go_wp2
    go_ret
    exact ⟨rfl, B9⟩
  by_cases hbz : bts = 0
  · subst hbz
    have HE := hide hE
    clear hE
    go_enter Tryd.func6, Tryd.ntmps6
    go_wp2_with fail
    refine (bencode_any d k s r c p i b 128 _ (HO.out _ B0) (HF.out _ B0) h0 h1 h2 h3 (by unfold maxLen; omega)).mono ?_
    rintro e' w2 ⟨rfl, hb2⟩
    rw [HE.out]
    have B2 := below_step B0 (Nat.le_refl _) hb2
    clear hb2 B0 F0
    go_wp2_with fail
    refine (works_any _ (HO.out _ B2) (HF.out _ B2)).mono ?_
    rintro e w9 ⟨rfl, hb9⟩
    have B9 := below_step B2 (Nat.le_refl _) hb9
    clear hb9
    go_wp2
    go_ret
    exact ⟨rfl, B9⟩
  have hbb : (bts == 0) = false := by rw [beq_eq_false_iff_ne]; exact hbz
  have hbody : ∃ Y, bodyF d c k p s r i b = Y := ⟨_, rfl⟩
  obtain ⟨Y, hY⟩ := hbody
  rw [hY] at hE hpt hsz
  have HY := hide hY
  have HE := hide hE
  have HPT := hide hpt
  have hxs := flg_size Y
  have hx1 := flg_inner Y
  have HXC := hide (flg_cut Y)
  have HXM := hide (flg_more Y)
  generalize flg Y = X at *
  obtain ⟨M, hM⟩ : ∃ M, X.size - 1 = M := ⟨_, rfl⟩
  have hM1 : M ≤ X.size := by omega
  have hM2 : 1 ≤ M := by omega
  have hw : IntKind.i64.wrap ((X.size : Int) - 1) = (M : Int) := by rw [IntWalk.i64_in _ (by omega)]; omega
  have hx5 : ¬ (X.size : Int) < 6 := by omega
  have hx6 : X.size ≤ 200 := by omega
  have hy3 : 4 ≤ Y.size := by omega
  have hy4 : Y.size ≤ 200 := by omega
  have HXS := hide hxs
  have HSZ := hide hsz
  rw [hM] at hx1
  have HM := hide hM
  clear hY hE hpt hxs hsz hM
  go_enter Tryd.func6, Tryd.ntmps6
  go_wp2_with fail
  refine (bencode_any d k s r c p i b 128 _ (HO.out _ B0) (HF.out _ B0) h0 h1 h2 h3 (by unfold maxLen; omega)).mono ?_
  rintro e' w2 ⟨rfl, hb2⟩
  rw [HE.out]
  have B2 := below_step B0 (Nat.le_refl _) hb2
  have F2 : FrBlk w2 w.heap.size d c k p s r i := (hb2.block _ hlt).trans F0
  have hlt2 := Nat.lt_of_lt_of_le hlt hb2.size
  obtain ⟨c0, c1, c2, c3, c4, c5, c6, _⟩ := zero_cells F2
  clear hb2 B0 F0 HE hlt
  go_wp2_with (with_reducible refine wpList_to_bytes (o := ⟨some 53, _, _, _, _, _⟩) _ rfl _ 9 34 5 rfl Tryd.underlying9 Tryd.underlying34 Tryd.underlying5 Y rfl ?_)
  intro cap w3 hcap hsz3 hbel hcells
  have R3 := rowB_of hcells
  have B3 := below_step B2 (Nat.le_refl _) hbel
  have F3 : FrBlk w3 w.heap.size d c k p s r i := (hbel.block _ hlt2).trans F2
  have hlt3 := Nat.lt_of_lt_of_le hlt2 hbel.size
  have hgw := B2.size
  have hgs := hlt2
  clear c0 c1 c2 c3 c4 c5 c6 B2 F2 hbel hcells hsz3 hlt2
  obtain ⟨c0, c1, c2, c3, c4, c5, c6, _⟩ := zero_cells F3
  obtain ⟨g, hg⟩ : ∃ g, w2.heap.size = g := ⟨_, rfl⟩
  rw [hg] at R3 hgw hgs ⊢
  obtain ⟨T, hT, hT1, hT2⟩ := turn_bits bts frm hb0 hb1 hbz hf0
  obtain ⟨lo, hlo⟩ : ∃ lo, T % 256 = lo := ⟨_, rfl⟩
  obtain ⟨hi9, hhi⟩ : ∃ h, T / 256 = h := ⟨_, rfl⟩
  have hlo1 : (T : Int) % 256 = (lo : Int) := by omega
  have hhi1 : (T : Int) / 256 = (hi9 : Int) := by omega
  have hlo2 : lo ≤ 255 := by omega
  have hhi2 : hi9 ≤ 255 := by omega
  have hlh : lo ≠ 0 ∨ hi9 ≠ 0 := by omega
  obtain ⟨ov, hv1, hv2, hv3, hv4⟩ : ∃ ov : Nat, 0 < ov ∧ ov < Y.size ∧ (k = 5 → (3 : Int) + (i.size : Int) / 128 = (ov : Int)) ∧ (k ≠ 5 → (Y.size : Int) - 1 = (ov : Int)) := by
    have := HSZ.out
    by_cases hk5 : k = 5
    · exact ⟨3 + i.size / 128, by omega, by omega, fun _ => by omega, fun h => absurd hk5 h⟩
    · exact ⟨Y.size - 1, by omega, by omega, fun h => absurd h hk5, fun _ => by omega⟩
  have hgl : w.heap.size ≠ g := by omega
  clear hlo hhi
  have HT := hide hT2
  have HLH := hide hlh
  clear hT2 hlh
  by_cases hk5 : k = 5
  all_goals
    first
      | (have hve := hv3 hk5; have hkb : ((k : Int) == 5) = true := by rw [beq_iff_eq]; omega)
      | (have hve := hv4 hk5; have hkb : ((k : Int) == 5) = false := by rw [beq_eq_false_iff_ne]; omega)
    clear hv3 hv4 hk5
    have hw9 : IntKind.i64.wrap ((Y.size : Int) - 1) = ((Y.size - 1 : Nat) : Int) := by rw [IntWalk.i64_in _ (by omega)]; omega
    go_upto_region 12 with (fail)
    clear hve hkb
    go_wp2_with fail
    refine (pick_any at' (ov : Int) _ (by omega) (by omega) ha0 ha1).mono ?_
    rintro e w9 ⟨rfl, rfl⟩
    obtain ⟨q, hq⟩ : ∃ q : Nat, at' % (ov : Int) = (q : Int) := ⟨(at' % (ov : Int)).toNat, by rw [Int.toNat_of_nonneg]; exact Int.emod_nonneg _ (by omega)⟩
    have hql : q < ov := by have := Int.emod_lt_of_pos at' (show (0 : Int) < (ov : Int) by omega); omega
    rw [hq]
    clear hq
    have hqY : q < Y.size := by omega
    have hqn : q < (bl Y).length := by rw [bl_length]; exact hqY
    obtain ⟨r1, r2⟩ := R3 q hqn
    have o1 := bytes_getD (bl_bytes Y) q
    obtain ⟨old, ho⟩ : ∃ old, (bl Y).getD q 0 = old := ⟨_, rfl⟩
    rw [ho] at r1 o1
    have hx1' : bits .xor .u8 (old : Int) (lo : Int) = ((old ^^^ lo : Nat) : Int) := u8_xor_nat old lo o1 (by omega)
    have hn1 : old ^^^ lo < 256 := xor_lt o1 (by omega)
    have hne1 : lo ≠ 0 → old ^^^ lo ≠ old := fun h e => h (by have := congrArg (old ^^^ ·) e; simp only [xor_self_cancel, Nat.xor_self] at this; exact this)
    have hz1 : lo = 0 → old ^^^ lo = old := fun e => by rw [e, Nat.xor_zero]
    generalize old ^^^ lo = now at *
    have HN1 := hide hne1
    have HZ1 := hide hz1
    have HO1 := hide ho
    clear hne1 hz1 ho
    have R4 := R3.set hqn now
    have B4 := B3.setCell (p := ⟨g, q, none⟩) hgw (.int .u8 (now : Int))
    have F4 : FrBlk (w3.setCell ⟨g, q, none⟩ (.int .u8 (now : Int))) w.heap.size d c k p s r i := (other_block _ _ _ hgl).trans F3
    have hlt4 : w.heap.size < (w3.setCell ⟨g, q, none⟩ (.int .u8 (now : Int))).heap.size := by rw [World.size_setCell]; exact hlt3
    go_upto_if 87 with (fail)
    generalize w3.setCell ⟨g, q, none⟩ (.int .u8 (now : Int)) = w4 at *
    clear R3 B3 F3 r1 r2 c0 c1 c2 c3 c4 c5 c6 hlt3
    go_cut [19] (fun s19 wx => s19 = .int .i64 (q : Int) ∧ ∃ L, RowB wx g L ∧ Below w.heap.size w wx ∧ FrBlk wx w.heap.size d c k p s r i ∧ w.heap.size < wx.heap.size ∧ L ≠ bl Y ∧ Bytes L ∧ L.length = Y.size)
    · by_cases hcase : q + 1 < ov
      · have hqn2 : q + 1 < ((bl Y).set q now).length := by rw [List.length_set, bl_length]; omega
        obtain ⟨r1, r2⟩ := R4 (q + 1) hqn2
        rw [getD_set _ _ _ _ hqn, if_neg (by omega)] at r1
        have o2 := bytes_getD (bl_bytes Y) (q + 1)
        obtain ⟨old2, ho2⟩ : ∃ old, (bl Y).getD (q + 1) 0 = old := ⟨_, rfl⟩
        rw [ho2] at r1 o2
        have hx2' : bits .xor .u8 (old2 : Int) (hi9 : Int) = ((old2 ^^^ hi9 : Nat) : Int) := u8_xor_nat old2 hi9 o2 (by omega)
        have hn2 : old2 ^^^ hi9 < 256 := xor_lt o2 (by omega)
        have hne2 : hi9 ≠ 0 → old2 ^^^ hi9 ≠ old2 := fun h e => h (by have := congrArg (old2 ^^^ ·) e; simp only [xor_self_cancel, Nat.xor_self] at this; exact this)
        generalize old2 ^^^ hi9 = now2 at *
        have hL : ((bl Y).set q now).set (q + 1) now2 ≠ bl Y := by
          intro e
          rcases HLH.out with h | h
          · have e2 := congrArg (fun l : List Nat => l.getD q 0) e
            simp only [getD_set _ _ _ _ hqn2, getD_set _ _ _ _ hqn] at e2
            rw [if_neg (by omega), if_pos trivial, HO1.out] at e2
            exact HN1.out h e2
          · have e2 := congrArg (fun l : List Nat => l.getD (q + 1) 0) e
            simp only [getD_set _ _ _ _ hqn2] at e2
            rw [if_pos trivial, ho2] at e2
            exact hne2 h e2
        have R5 := R4.set hqn2 now2
        have hBy := bytes_set (bytes_set (bl_bytes Y) q now hn1) (q + 1) now2 hn2
        have hLn : (((bl Y).set q now).set (q + 1) now2).length = Y.size := by rw [List.length_set, List.length_set, bl_length]
        have B5 := B4.setCell (p := ⟨g, q + 1, none⟩) hgw (.int .u8 (now2 : Int))
        have F5 : FrBlk (w4.setCell ⟨g, q + 1, none⟩ (.int .u8 (now2 : Int))) w.heap.size d c k p s r i := (other_block _ _ _ hgl).trans F4
        have hlt5 : w.heap.size < (w4.setCell ⟨g, q + 1, none⟩ (.int .u8 (now2 : Int))).heap.size := by rw [World.size_setCell]; exact hlt4
        clear hne2 ho2
        have HL := hide hL
        have HBY := hide hBy
        have HLN := hide hLn
        clear hL hBy hLn
        generalize ((bl Y).set q now).set (q + 1) now2 = L at *
        have hcase' : (q : Int) + 1 < (ov : Int) := by omega
        have hqY2 : q + 1 < Y.size := by omega
        go_wp2
        generalize w4.setCell ⟨g, q + 1, none⟩ (.int .u8 (now2 : Int)) = w5 at *
        clear R4 B4 F4 r1 r2 hlt4 hqn hqn2
        go_meet
        exact ⟨rfl, L, R5, B5, F5, hlt5, HL.out, HBY.out, HLN.out⟩
      · have hcase' : ¬ (q : Int) + 1 < (ov : Int) := by omega
        by_cases hlz : lo = 0
        · have hq9 : Y.size - 1 < ((bl Y).set q now).length := by rw [List.length_set, bl_length]; omega
          have hnow := HZ1.out hlz
          have hself : (bl Y).set q now = bl Y := by
            rw [hnow, ← HO1.out]
            exact set_getD (bl Y) q hqn
          rw [hself] at R4 hq9
          obtain ⟨r1, r2⟩ := R4 (Y.size - 1) hq9
          have o2 := bytes_getD (bl_bytes Y) (Y.size - 1)
          obtain ⟨old2, ho2⟩ : ∃ old, (bl Y).getD (Y.size - 1) 0 = old := ⟨_, rfl⟩
          rw [ho2] at r1 o2
          have hx2' : bits .xor .u8 (old2 : Int) (hi9 : Int) = ((old2 ^^^ hi9 : Nat) : Int) := u8_xor_nat old2 hi9 o2 (by omega)
          have hn2 : old2 ^^^ hi9 < 256 := xor_lt o2 (by omega)
          have hne2 : hi9 ≠ 0 → old2 ^^^ hi9 ≠ old2 := fun h e => h (by have := congrArg (old2 ^^^ ·) e; simp only [xor_self_cancel, Nat.xor_self] at this; exact this)
          generalize old2 ^^^ hi9 = now2 at *
          obtain ⟨Z, hZ⟩ : ∃ Z, Y.size - 1 = Z := ⟨_, rfl⟩
          rw [hZ] at hq9 r1 r2 ho2
          have hL : (bl Y).set Z now2 ≠ bl Y := by
            intro e
            have e2 := congrArg (fun l : List Nat => l.getD Z 0) e
            simp only [getD_set _ _ _ _ hq9] at e2
            rw [if_pos trivial, ho2] at e2
            rcases HLH.out with h | h
            · exact h hlz
            · exact hne2 h e2
          have R5 := R4.set hq9 now2
          have hBy := bytes_set (bl_bytes Y) Z now2 hn2
          have hLn : ((bl Y).set Z now2).length = Y.size := by rw [List.length_set, bl_length]
          have B5 := B4.setCell (p := ⟨g, Z, none⟩) hgw (.int .u8 (now2 : Int))
          have F5 : FrBlk (w4.setCell ⟨g, Z, none⟩ (.int .u8 (now2 : Int))) w.heap.size d c k p s r i := (other_block _ _ _ hgl).trans F4
          have hlt5 : w.heap.size < (w4.setCell ⟨g, Z, none⟩ (.int .u8 (now2 : Int))).heap.size := by rw [World.size_setCell]; exact hlt4
          clear hne2 ho2 hself hnow
          have HL := hide hL
          have HBY := hide hBy
          have HLN := hide hLn
          clear hL hBy hLn
          generalize (bl Y).set Z now2 = L at *
          have hwz : IntKind.i64.wrap ((Y.size : Int) - 1) = (Z : Int) := by rw [IntWalk.i64_in _ (by omega)]; omega
          have hwz2 : (Y.size : Int) - 1 = (Z : Int) := by omega
          have hZ2 : Z < Y.size := by omega
          rw [hZ] at hw9
          subst hlz
          clear hZ
          go_wp2
          generalize w4.setCell ⟨g, Z, none⟩ (.int .u8 (now2 : Int)) = w5 at *
          clear R4 B4 F4 r1 r2 hlt4 hqn hq9
          go_meet
          exact ⟨rfl, L, R5, B5, F5, hlt5, HL.out, HBY.out, HLN.out⟩
        · have hL : (bl Y).set q now ≠ bl Y := by
            intro e
            have e2 := congrArg (fun l : List Nat => l.getD q 0) e
            simp only [getD_set _ _ _ _ hqn] at e2
            rw [if_pos trivial, HO1.out] at e2
            exact HN1.out hlz e2
          have R5 := R4
          have hBy := bytes_set (bl_bytes Y) q now hn1
          have hLn : ((bl Y).set q now).length = Y.size := by rw [List.length_set, bl_length]
          have B5 := B4
          have F5 := F4
          have hlt5 := hlt4
          have HL := hide hL
          have HBY := hide hBy
          have HLN := hide hLn
          clear hL hBy hLn
          generalize (bl Y).set q now = L at *
          have hlb : ((lo : Int) == 0) = false := by rw [beq_eq_false_iff_ne]; omega
          go_wp2
          clear R4 B4 F4 hlt4 hqn hlb
          go_meet
          exact ⟨rfl, L, R5, B5, F5, hlt5, HL.out, HBY.out, HLN.out⟩
    · obtain ⟨rfl, L, R5, B5, F5, hlt5, hL, hBy, hLn⟩ := hcut
      have HL := hide hL
      have HBY := hide hBy
      have HLN := hide hLn
      clear hL hBy hLn R4 B4 F4 hlt4 hqn
      clear HLH HN1 HZ1 HO1 HT hv1 hv2 hql hqY hlo1 hhi1 hlo2 hhi2 o1
      have hcv := R5.run (n := Y.size) (c := cap) HLN.out
      have hzs : (st L).size ≤ 100000 := by rw [st_size, HLN.out]; omega
      obtain ⟨d2, c2, k2, p2, s2, r2, i2, e2, hR, g0, g1, g2, g3, _, _⟩ := decT4_form (st L) b 128
      have HNE := hide (fun (h : e2 = 0) (hd : d2 = d ∧ c2 = c ∧ k2 = k ∧ p2 = p ∧ s2 = s ∧ r2 = r ∧ i2 = i) => HL.out (by
        obtain ⟨rfl, rfl, rfl, rfl, rfl, rfl, rfl⟩ := hd
        subst h
        have h5 := (dec_only hR).1
        rw [HY.out] at h5
        rw [← bl_st HBY.out, h5]))
      have HR := hide hR
      clear hR
      go_wp2_with fail
      refine (bdecode_any (st L) b 128 _ (HO.out _ B5) (HF.out _ B5) hzs).mono ?_
      rintro e' w6 ⟨rfl, hb6⟩
      rw [HR.out]
      unfold frV
      have B6 := below_step B5 (Nat.le_refl _) hb6
      have F6 : FrBlk w6 w.heap.size d c k p s r i := (hb6.block _ hlt5).trans F5
      have hlt6 := Nat.lt_of_lt_of_le hlt5 hb6.size
      clear hb6 B5 F5 hcv hzs R5 hlt5 HR
      have B7 := B6.alloc B6.size (.cells #[.int .u8 (d2 : Int), .bool c2, .int .u8 (k2 : Int), .bool p2, .int .u8 (s2 : Int), .int .u8 (r2 : Int), .string i2] 23)
      have G7 : FrBlk (w6.alloc (.cells #[.int .u8 (d2 : Int), .bool c2, .int .u8 (k2 : Int), .bool p2, .int .u8 (s2 : Int), .int .u8 (r2 : Int), .string i2] 23)) w6.heap.size d2 c2 k2 p2 s2 r2 i2 := World.alloc_heap_new w6 _
      have F7 : FrBlk (w6.alloc (.cells #[.int .u8 (d2 : Int), .bool c2, .int .u8 (k2 : Int), .bool p2, .int .u8 (s2 : Int), .int .u8 (r2 : Int), .string i2] 23)) w.heap.size d c k p s r i := (Below.heap_alloc _ _ _ hlt6).trans F6
      have hlt7 : w6.heap.size < (w6.alloc (.cells #[.int .u8 (d2 : Int), .bool c2, .int .u8 (k2 : Int), .bool p2, .int .u8 (s2 : Int), .int .u8 (r2 : Int), .string i2] 23)).heap.size := by simp
      go_upto_region 19 with (fail)
      obtain ⟨g9, hg9⟩ : ∃ g9, w6.heap.size = g9 := ⟨_, rfl⟩
      rw [hg9] at G7 hlt7 hlt6 ⊢
      generalize w6.alloc (.cells #[.int .u8 (d2 : Int), .bool c2, .int .u8 (k2 : Int), .bool p2, .int .u8 (s2 : Int), .int .u8 (r2 : Int), .string i2] 23) = w7 at *
      clear B6 F6 hg9
      obtain ⟨cq, N3, M1, Q, u1, u2, u3, u4, u5, u6, u7, u8, HD2, HD3, u9⟩ := turn_cut (X := X) (Y := Y) cut b hc0 hy3 HXS.out HXC.out HXM.out HPT.out
      have u0 : (X.size : Int) - 1 = (M : Int) := by have := HM.out; omega
      have u10 : (M : Int) - 1 = (M1 : Int) := by have := HM.out; omega
      go_wp2_with fail
      refine (bdecode_any (X.extract 1 Q) b 128 _ (HO.out _ B7) (HF.out _ B7) (by rw [ByteArray.size_extract]; omega)).mono ?_
      rintro e' w8 ⟨rfl, hb8⟩
      rw [HD2]
      unfold bad
      have B8 := below_step B7 (Nat.le_refl _) hb8
      have G8 : FrBlk w8 g9 d2 c2 k2 p2 s2 r2 i2 := (hb8.block _ hlt7).trans G7
      have F8 : FrBlk w8 w.heap.size d c k p s r i := (hb8.block _ (Nat.lt_trans hlt6 hlt7)).trans F7
      have hlt8 := Nat.lt_of_lt_of_le hlt7 hb8.size
      clear hb8 B7 G7 F7 hlt7 u0 u1 u2 u3 u4 u5 u6 u7 u8 u9 u10 HD2
      have B9 := B8.alloc B8.size zfr
      have G9 : FrBlk (w8.alloc zfr) g9 d2 c2 k2 p2 s2 r2 i2 := (Below.heap_alloc _ _ _ hlt8).trans G8
      have F9 : FrBlk (w8.alloc zfr) w.heap.size d c k p s r i := (Below.heap_alloc _ _ _ (Nat.lt_trans hlt6 hlt8)).trans F8
      have hlt9 : g9 < (w8.alloc zfr).heap.size := by simp; omega
      unfold zfr at B9 G9 F9 hlt9
      go_upto_region 20 with (fail)
      generalize w8.alloc (.cells #[.int .u8 0, .bool false, .int .u8 0, .bool false, .int .u8 0, .int .u8 0, .string ⟨#[]⟩] 23) = w9 at *
      clear B8 G8 F8 hlt8
      go_wp2_with fail
      refine (bdecode_any (X.extract 1 X.size) b 128 _ (HO.out _ B9) (HF.out _ B9) (by rw [ByteArray.size_extract]; omega)).mono ?_
      rintro e' w10 ⟨rfl, hb10⟩
      rw [HD3]
      unfold bad
      have B10 := below_step B9 (Nat.le_refl _) hb10
      have G10 : FrBlk w10 g9 d2 c2 k2 p2 s2 r2 i2 := (hb10.block _ hlt9).trans G9
      have F10 : FrBlk w10 w.heap.size d c k p s r i := (hb10.block _ (Nat.lt_trans hlt6 hlt9)).trans F9
      have hlt10 := Nat.lt_of_lt_of_le hlt9 hb10.size
      clear hb10 B9 G9 F9 hlt9 HD3
      have B11 := B10.alloc B10.size zfr
      have G11 : FrBlk (w10.alloc zfr) g9 d2 c2 k2 p2 s2 r2 i2 := (Below.heap_alloc _ _ _ hlt10).trans G10
      have F11 : FrBlk (w10.alloc zfr) w.heap.size d c k p s r i := (Below.heap_alloc _ _ _ (Nat.lt_trans hlt6 hlt10)).trans F10
      unfold zfr at B11 G11 F11
      go_upto_region 21 with (fail)
      generalize w10.alloc (.cells #[.int .u8 0, .bool false, .int .u8 0, .bool false, .int .u8 0, .int .u8 0, .string ⟨#[]⟩] 23) = w11 at *
      clear B10 G10 F10 hlt10
      obtain ⟨a0, a1, a2, a3, a4, a5, a6, _⟩ := zero_cells G11
      obtain ⟨b0, b1, b2, b3, b4, b5, b6, _⟩ := zero_cells F11
      by_cases he2 : e2 = 0
      · have hne := HNE.out he2
        subst he2
        clear HNE
        go_wp2_with fail
        all_goals first
          | (refine (works_any _ (HO.out _ B11) (HF.out _ B11)).mono ?_
             rintro e' w12 ⟨rfl, hb12⟩
             go_wp2
             go_ret
             exact ⟨rfl, below_step B11 (Nat.le_refl _) hb12⟩)
          | (rename_i z0 z1 z2 z3 z4 z5 z6
             exact absurd ⟨by omega, z1, by omega, z3, by omega, by omega, ByteArray.ext (Array.ext' (by rw [← Lib.toList_data, ← Lib.toList_data]; exact z6))⟩ hne)
      · have t2 : (e2 != 0) = true := by rw [bne_iff_ne]; exact he2
        clear HNE
        go_wp2_with fail
        refine (works_any _ (HO.out _ B11) (HF.out _ B11)).mono ?_
        rintro e' w12 ⟨rfl, hb12⟩
        go_wp2
        go_ret
        exact ⟨rfl, below_step B11 (Nat.le_refl _) hb12⟩
end Go.Proofs.YtfggjmdjcjhjfaaDoor
