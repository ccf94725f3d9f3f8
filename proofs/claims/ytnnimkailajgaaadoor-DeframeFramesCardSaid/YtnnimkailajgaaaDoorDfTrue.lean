/- DeframeTrue: the walk. -/
import Derived.Test.YtnnimkailajgaaaDoorDfWorks
namespace Go.Proofs.YtnnimkailajgaaaDoor
open Go.RowKit
set_option linter.unusedVariables false
set_option linter.unusedSimpArgs false

theorem hist_feed {adv ini : Bool} {n1 : Int} : ∀ (l : List Nat), Bytes l → Hist adv n1 (feedS adv ini n1 ⟨0, [], 0⟩ l).1 l := by
  intro l
  suffices H : ∀ n (l : List Nat), l.length = n → Bytes l → Hist adv n1 (feedS adv ini n1 ⟨0, [], 0⟩ l).1 l from H l.length l rfl
  intro n
  induction n with
  | zero =>
    intro l hl _
    rw [List.eq_nil_of_length_eq_zero hl]
    exact ⟨fun h => by simp [feedS] at h, fun h => by simp [feedS] at h⟩
  | succ n ih =>
    intro l hl hb
    have hne : l ≠ [] := by intro e; rw [e] at hl; simp at hl
    obtain ⟨l', b, rfl⟩ : ∃ l' b, l = l' ++ [b] := ⟨l.dropLast, l.getLast hne, (List.dropLast_concat_getLast hne).symm⟩
    have hl' : l'.length = n := by simp at hl; exact hl
    have hb' : Bytes l' := fun y hy => hb y (by simp [hy])
    rw [feed_snoc]
    exact (hist_step (ok_feed (ok_fresh adv n1) l' hb') (ih l' hl' hb')).1
theorem told_slice {s : ByteArray} {k : Nat} {q : List Nat} {t : ByteArray} (hk : k < s.size) (h : (bl s).take (k + 1) = q ++ bl t) : t.size ≤ k + 1 ∧ s.extract (k + 1 - t.size) (k + 1) = t := by
  have hl : k + 1 = q.length + t.size := by have := congrArg List.length h; rw [List.length_take, List.length_append, bl_length, bl_length] at this; omega
  refine ⟨by omega, bl_inj ?_⟩
  have h2 : ((bl s).take (k + 1)).drop q.length = bl t := by rw [h]; simp
  rw [bl_extract, ← h2, List.drop_take, show k + 1 - t.size = q.length by omega]
/-- A frame that is told stands, encoded, at the end of what came. -/
theorem told_enc {adv ini : Bool} {n1 : Int} {s : ByteArray} {k : Nat} {f : Fr} (hk : k < s.size) (h : (stepS adv ini n1 (feedS adv ini n1 ⟨0, [], 0⟩ ((bl s).take k)).1 (oc s k)).2 = some f) :
    ∃ t : ByteArray, encE adv f ini n1 = .returned (.tuple #[.string t, .int .i64 0]) ∧ 2 < t.size ∧ t.size ≤ 600 ∧ t.size ≤ k + 1 ∧ s.extract (k + 1 - t.size) (k + 1) = t ∧ f.ok := by
  have hby : Bytes ((bl s).take k) := fun y hy => bl_bytes s y (List.mem_of_mem_take hy)
  have hko := ok_feed (ini := ini) (ok_fresh adv n1) _ hby
  obtain ⟨q, hq, hd⟩ := (hist_step (ini := ini) (b := oc s k) hko (hist_feed (ini := ini) _ hby)).2 f h
  have hoc : (bl s).getD k 0 = oc s k := rfl
  rw [← hoc, ← take_succ_getD (bl s) k (by rw [bl_length]; exact hk)] at hq
  obtain ⟨h1, h2, h3⟩ := decO_some hd
  have hq' : (bl s).take (k + 1) = q ++ bl (wr adv (st (feedS adv ini n1 ⟨0, [], 0⟩ ((bl s).take k)).1.got)) := by rw [bl_wr, bl_st hko.bytes]; exact hq
  obtain ⟨h4, h5⟩ := told_slice hk hq'
  obtain ⟨x, e, h6, h7, h8⟩ := enc_form adv f ini n1
  rw [h3] at h6
  injection h6 with h6
  injection h6 with h6
  simp only [Array.mk.injEq, List.cons.injEq, Value.string.injEq, Value.int.injEq, true_and, and_true] at h6
  obtain ⟨rfl, rfl⟩ := h6
  obtain ⟨t, h9, _, _, h10⟩ := h8 rfl
  refine ⟨_, h3, ?_, h7, h4, h5, h1⟩
  rw [h9, wr_size]
  rw [bl_length] at h10
  omega
theorem row_cells {w : World} {g : Nat} {a i : Bool} {n : Int} (h : w.heap[g]? = some (.cells #[.bool a, .bool i, .int .i64 n] 23 (0, 0))) :
    w.cell? ⟨g, 0, none⟩ = some (.bool a) ∧ w.cell? ⟨g, 1, none⟩ = some (.bool i) ∧ w.cell? ⟨g, 2, none⟩ = some (.int .i64 n) := by
  refine ⟨?_, ?_, ?_⟩ <;> (simp only [World.cell?, h]; rfl)

set_option maxRecDepth 100000 in
set_option maxHeartbeats 4000000 in
theorem deframeTrue_any (adv ini : Bool) (n1 : Int) (s : ByteArray) (w : World) (hh : Octs w) (hf : Half w) (hs : s.size ≤ maxLen) :
    Calls Tryd.prog 5 #[.agg #[.bool adv, .bool ini, .int .i64 n1], .string s] w fun e w' => e = .returned (.bool true) ∧ Below w.heap.size w w' := by
  unfold maxLen at hs
  have HO := hide (fun W (hb : Below w.heap.size w W) => hh.below hb)
  have HF := hide (fun W (hb : Below w.heap.size w W) => hf.below hb)
  clear hh hf
  have B1 := (Below.refl w.heap.size w).alloc (Nat.le_refl _) (.cells #[.bool adv, .bool ini, .int .i64 n1] 23)
  have R1 := World.alloc_heap_new w (.cells #[.bool adv, .bool ini, .int .i64 n1] 23)
  have hs1 : w.heap.size < (w.alloc (.cells #[.bool adv, .bool ini, .int .i64 n1] 23)).heap.size := by rw [World.size_alloc]; omega
  by_cases h6 : 600 < s.size
  · have h6' : (600 : Int) < (s.size : Int) := by omega
    clear R1 hs1
    go_enter Tryd.func5, Tryd.ntmps5
    go_wp2_with fail
    refine (works_any _ (HO.out _ B1) (HF.out _ B1)).mono ?_
    rintro e w2 ⟨rfl, b2⟩
    have B2 := below_step B1 (Nat.le_refl _) b2
    go_wp2
    go_ret
    exact ⟨rfl, B2⟩
  · have h6' : ¬ (600 : Int) < (s.size : Int) := by omega
    obtain ⟨q0, q1, q2⟩ := row_cells R1
    go_enter Tryd.func5, Tryd.ntmps5
    go_upto_region 3 with (fail)
    generalize w.alloc (.cells #[.bool adv, .bool ini, .int .i64 n1] 23) = w1 at *
    go_wp2_with fail
    refine (new_any adv ini n1 w1).mono ?_
    rintro e w2 ⟨rfl, fr, b2⟩
    have R2 := (b2.block _ hs1).trans R1
    have B2 := below_step B1 (Nat.le_refl _) b2
    clear R1 q0 q1 q2 B1 b2
    obtain ⟨gd, hgd⟩ : ∃ gd, w1.heap.size = gd := ⟨_, rfl⟩
    rw [hgd] at fr hs1 ⊢
    clear hgd
    have hgw : gd < w2.heap.size := (Array.getElem?_eq_some_iff.1 fr).1
    have D2 := fr.at (Nat.le_refl gd)
    clear fr
    go_wp2
    go_loopw [6] (fun i wr => ∃ k : Nat, k ≤ s.size ∧ i = .int .i64 (k : Int) ∧ DefAt adv ini n1 gd gd (feedS adv ini n1 ⟨0, [], 0⟩ ((bl s).take k)).1 wr ∧ Keeps gd gd w2 wr) (fun i _ => s.size - (intOf i).toNat)
    case atStart => exact ⟨0, by omega, rfl, D2, Keeps.refl _ _ _⟩
    case round =>
      clear D2
      obtain ⟨k, hks, rfl, hd, hkp⟩ := hrel
      have Bw := B2.trans (hkp.below.mono (Nat.le_of_lt hs1))
      have R3 := (hkp.below.block _ hs1).trans R2
      clear B2 R2
      by_cases hkl : k < s.size
      · have hkl' : (k : Int) < (s.size : Int) := by omega
        have hqo := oc_at s k hkl
        have hlo := oc_lt s k
        have htk := take_succ_getD (bl s) k (by rw [bl_length]; exact hkl)
        have hoc : (bl s).getD k 0 = oc s k := rfl
        rw [hoc] at htk
        have hTE := fun f => told_enc (adv := adv) (ini := ini) (n1 := n1) (f := f) hkl
        have hby : Bytes ((bl s).take k) := fun y hy => bl_bytes s y (List.mem_of_mem_take hy)
        have hko := ok_feed (ini := ini) (ok_fresh adv n1) _ hby
        have hbd := feed_bad adv ini n1 ⟨0, [], 0⟩ k ((bl s).take k) (by rw [List.length_take, bl_length]; omega)
        have hsn := congrArg Prod.fst (feed_snoc adv ini n1 ⟨0, [], 0⟩ ((bl s).take k) (oc s k))
        rw [← htk] at hsn
        generalize oc s k = b at *
        have HN := hide (feed1_any adv ini n1 gd gd _ b wr (fun W hW => HO.out W (Bw.trans (hW.mono (Nat.le_of_lt hs1)))) (fun W hW => HF.out W (Bw.trans (hW.mono (Nat.le_of_lt hs1)))) hlo hd hko (by simp only [Nat.zero_add] at hbd; omega))
        have HSN := hide hsn
        clear hsn htk hoc hby hko hbd
        generalize (feedS adv ini n1 ⟨0, [], 0⟩ ((bl s).take k)).1 = ya at *
        obtain ⟨Z, hZ⟩ : ∃ Z, stepS adv ini n1 ya b = Z := ⟨_, rfl⟩
        rw [hZ] at HN HSN
        simp only [hZ] at hTE
        obtain ⟨y2, o⟩ := Z
        dsimp only at HN HSN hTE
        clear hZ
        have hgr : gd < wr.heap.size := hd.lt
        cases o with
        | none =>
          unfold outV Fr.v frV zf at HN
          clear hTE
          go_wp2_with fail
          refine HN.out.mono ?_
          rintro e w3 ⟨rfl, hd3, hk3⟩
          have hg3 : gd ≤ w3.heap.size := Nat.le_of_lt hd3.lt
          obtain ⟨c0, c1, c2, c3, c4, c5, c6, _⟩ := zero_cells (zblk w3)
          go_wp2
          go_roundw
          case rel => exact ⟨k + 1, hkl, by go_num, by rw [HSN.out]; exact hd3.alloc _, (hkp.trans hk3).trans (Keeps.ofBelow hg3 ((Below.refl _ _).alloc (Nat.le_refl _) _))⟩
          case measure => simp [intOf]; omega
        | some f =>
          obtain ⟨t, hE, ht2, ht6, htk1, htx, hf1, hf2, hf3, hf4, hf5⟩ := hTE f rfl
          clear hTE
          obtain ⟨d, c, kk, p, s', r, i⟩ := f
          unfold outV Fr.v frV at HN
          go_wp2_with fail
          refine HN.out.mono ?_
          rintro e w3 ⟨rfl, hd3, hk3⟩
          have hg3 : gd < w3.heap.size := hd3.lt
          have b4 := (Below.refl w3.heap.size w3).alloc (Nat.le_refl _) (.cells #[.int .u8 (d : Int), .bool c, .int .u8 (kk : Int), .bool p, .int .u8 (s' : Int), .int .u8 (r : Int), .string i] 30)
          have F4 : FrBlk (w3.alloc (.cells #[.int .u8 (d : Int), .bool c, .int .u8 (kk : Int), .bool p, .int .u8 (s' : Int), .int .u8 (r : Int), .string i] 30)) w3.heap.size d c kk p s' r i := World.alloc_heap_new w3 _
          have R4 := (b4.block _ (by omega)).trans ((hk3.below.block _ hs1).trans R3)
          have hd4 := hd3.below b4
          have hk4 := (hkp.trans hk3).trans (Keeps.ofBelow (Nat.le_of_lt hg3) b4)
          have B4 := Bw.trans ((hk3.trans (Keeps.ofBelow (Nat.le_of_lt hg3) b4)).below.mono (Nat.le_of_lt hs1))
          clear hd3 hk3 b4 hkp R3 HN
          obtain ⟨c0, c1, c2, c3, c4, c5, c6, _⟩ := zero_cells F4
          obtain ⟨q0, q1, q2⟩ := row_cells R4
          go_upto_region 8 with (fail)
          generalize w3.alloc (.cells #[.int .u8 (d : Int), .bool c, .int .u8 (kk : Int), .bool p, .int .u8 (s' : Int), .int .u8 (r : Int), .string i] 30) = w4 at *
          have HE := hide (encoded_any adv ini n1 ⟨d, c, kk, p, s', r, i⟩ t 0 w4 (HO.out _ B4) (HF.out _ B4) hf1 hf2 hf3 hf4 (Nat.le_trans hf5 (by decide)) hE (fun _ => ht2) ht6)
          unfold Fr.v frV at HE
          clear hE
          go_wp2_with fail
          refine HE.out.mono ?_
          rintro e w5 ⟨rfl, b5⟩
          have hd5 := hd4.below b5
          have hk5 := hk4.trans (Keeps.ofBelow (Nat.le_of_lt hd4.lt) b5)
          clear hd4 hk4 B4 HE c0 c1 c2 c3 c4 c5 c6 q0 q1 q2 F4 R4
          obtain ⟨M, hM⟩ : ∃ M, k + 1 = M := ⟨_, rfl⟩
          obtain ⟨P, hP⟩ : ∃ P, k + 1 - t.size = P := ⟨_, rfl⟩
          rw [hP, hM] at htx
          have hw1 : IntKind.i64.wrap ((k : Int) + 1) = (M : Int) := by rw [IntWalk.i64_in _ (by omega)]; omega
          have hlt1 : ¬ (M : Int) < (t.size : Int) := by omega
          have hw2 : IntKind.i64.wrap ((M : Int) - (t.size : Int)) = (P : Int) := by rw [IntWalk.i64_in _ (by omega)]; omega
          have hM1 : M ≤ s.size := by omega
          have hP1 : P ≤ M := by omega
          have hM2 : (M : Int) ≤ (s.size : Int) := by omega
          have hP2 : (P : Int) ≤ (M : Int) := by omega
          go_wp2
          go_roundw
          case rel => exact ⟨k + 1, hkl, by rw [hM], by rw [HSN.out]; exact hd5, hk5⟩
          case measure => simp [intOf]; omega
      · go_wp2_with fail
        refine (works_any _ (HO.out _ Bw) (HF.out _ Bw)).mono ?_
        rintro e w3 ⟨rfl, b3⟩
        have B3 := below_step Bw (Nat.le_refl _) b3
        go_wp2
        go_ret
        exact ⟨rfl, B3⟩
end Go.Proofs.YtnnimkailajgaaaDoor
