/- DeframeComes: the walk. -/
import Derived.Test.YtnnimkailajgaaaDoorDfTrue
namespace Go.Proofs.YtnnimkailajgaaaDoor
open Go.RowKit
set_option linter.unusedVariables false
set_option linter.unusedSimpArgs false

/-- What the last test asks. -/
structure CF (adv ini : Bool) (n1 : Int) (bad gd g1 gf : Nat) (f : Fr) (W : World) : Prop where
  a : ∀ j, j < 7 → W.cell? ⟨g1, j, none⟩ = (frC f)[j]?
  b : FrBlk W gf f.d f.c f.k f.p f.s f.r f.i
  d : ∃ v n, W.heap[gd]? = some (dfr adv ini n1 v bad n gd)
theorem CF.below {adv ini : Bool} {n1 : Int} {bad gd g1 gf : Nat} {f : Fr} {W W' : World} (h : CF adv ini n1 bad gd g1 gf f W) (b : Below W.heap.size W W') : CF adv ini n1 bad gd g1 gf f W' := by
  obtain ⟨v, n, hd⟩ := h.d
  have hl : g1 < W.heap.size := World.block_lt_of_cell? W ⟨g1, 0, none⟩ (show W.cell? ⟨g1, 0, none⟩ = some (.int .u8 (f.d : Int)) from h.a 0 (by decide))
  exact ⟨fun j hj => (b.cell (p := ⟨g1, j, none⟩) hl).trans (h.a j hj), (b.block gf (Array.getElem?_eq_some_iff.1 h.b).1).trans h.b, v, n, (b.block gd (Array.getElem?_eq_some_iff.1 hd).1).trans hd⟩
theorem CF.cells {adv ini : Bool} {n1 : Int} {bad gd g1 gf d k s r : Nat} {c p : Bool} {i : ByteArray} {W : World} (h : CF adv ini n1 bad gd g1 gf ⟨d, c, k, p, s, r, i⟩ W) :
    W.cell? ⟨g1, 0, none⟩ = some (.int .u8 (d : Int)) ∧ W.cell? ⟨g1, 1, none⟩ = some (.bool c) ∧ W.cell? ⟨g1, 2, none⟩ = some (.int .u8 (k : Int)) ∧ W.cell? ⟨g1, 3, none⟩ = some (.bool p) ∧ W.cell? ⟨g1, 4, none⟩ = some (.int .u8 (s : Int)) ∧ W.cell? ⟨g1, 5, none⟩ = some (.int .u8 (r : Int)) ∧ W.cell? ⟨g1, 6, none⟩ = some (.string i) ∧
    W.cell? ⟨gf, 0, none⟩ = some (.int .u8 (d : Int)) ∧ W.cell? ⟨gf, 1, none⟩ = some (.bool c) ∧ W.cell? ⟨gf, 2, none⟩ = some (.int .u8 (k : Int)) ∧ W.cell? ⟨gf, 3, none⟩ = some (.bool p) ∧ W.cell? ⟨gf, 4, none⟩ = some (.int .u8 (s : Int)) ∧ W.cell? ⟨gf, 5, none⟩ = some (.int .u8 (r : Int)) ∧ W.cell? ⟨gf, 6, none⟩ = some (.string i) := by
  obtain ⟨z0, z1, z2, z3, z4, z5, z6, _⟩ := zero_cells h.b
  exact ⟨h.a 0 (by decide), h.a 1 (by decide), h.a 2 (by decide), h.a 3 (by decide), h.a 4 (by decide), h.a 5 (by decide), h.a 6 (by decide), z0, z1, z2, z3, z4, z5, z6⟩
theorem outV_ret (o : Option Fr) : ∃ v, outV o = .returned v := by cases o <;> exact ⟨_, rfl⟩
/-- An encoded frame behind a beginning. -/
theorem feed_enc {adv ini : Bool} {n1 : Int} {x : DS} {t : ByteArray} {f : Fr} (hx : x.next = 0 ∨ (x.next = 1 ∧ x.got = [])) (hd : decO adv t ini n1 = some f) (hb : BodyOk adv n1 (bl t)) (h1 : 1 ≤ (bl t).length) :
    feedS adv ini n1 x (bl (wr adv t)) = (⟨1, [], x.bad⟩, [f], true) := by
  rw [bl_wr]
  exact run_told (pre := [fl adv]) hb h1 (by rw [st_bl]; exact hd) (feed_flag hx)
/-- Encode's answer, as the laws ask it. -/
theorem enc_say (adv : Bool) (f : Fr) (b : Bool) (n1 : Int) : ∃ (x : ByteArray) (e : Int), encE adv f b n1 = .returned (.tuple #[.string x, .int .i64 e]) ∧ x.size ≤ 600 ∧ (e = 0 → 2 < x.size) ∧
    (e = 0 → ∀ y : DS, (y.next = 0 ∨ (y.next = 1 ∧ y.got = [])) → feedS adv b n1 y (bl x) = (⟨1, [], y.bad⟩, [f], true)) ∧
    (e = 0 → (bl x).getD 0 0 = fl adv ∧ ∀ m, feedS adv b n1 ⟨1, [], m⟩ (bl (x.extract 1 x.size)) = (⟨1, [], m⟩, [f], true)) := by
  obtain ⟨x, e, h1, h2, h3⟩ := enc_form adv f b n1
  refine ⟨x, e, h1, h2, fun h => ?_, fun h y hy => ?_, fun h => ?_⟩
  · obtain ⟨t, rfl, _, _, h4⟩ := h3 h
    rw [wr_size]
    rw [bl_length] at h4
    omega
  · obtain ⟨t, rfl, h4, h5, h6⟩ := h3 h
    exact feed_enc hy h4 h5 h6
  · obtain ⟨t, rfl, h4, h5, h6⟩ := h3 h
    refine ⟨by rw [bl_wr]; rfl, fun m => ?_⟩
    rw [bl_extract, bl_wr, List.take_of_length_le (by rw [wr_size, List.length_drop]; simp [bl_length])]
    exact run_told (pre := []) h5 h6 (by rw [st_bl]; exact h4) rfl

set_option maxRecDepth 100000 in
set_option maxHeartbeats 4000000 in
theorem deframeComes_any (adv ini : Bool) (n1 : Int) (s : ByteArray) (d k s' r : Nat) (c p : Bool) (i : ByteArray) (w : World) (hh : Octs w) (hf : Half w) (hs : s.size ≤ maxLen) (h0 : d ≤ 255) (h1 : k ≤ 255) (h2 : s' ≤ 255) (h3 : r ≤ 255) (hi : i.size ≤ maxLen) :
    Calls Tryd.prog 4 #[.agg #[.bool adv, .bool ini, .int .i64 n1], .string s, .agg #[.int .u8 (d : Int), .bool c, .int .u8 (k : Int), .bool p, .int .u8 (s' : Int), .int .u8 (r : Int), .string i]] w fun e w' => e = .returned (.bool true) ∧ Below w.heap.size w w' := by
  unfold maxLen at hs
  have hi' := hi
  unfold maxLen at hi'
  have HO := hide (fun W (hb : Below w.heap.size w W) => hh.below hb)
  have HF := hide (fun W (hb : Below w.heap.size w W) => hf.below hb)
  clear hh hf
  have hr := room_le n1
  have Ba := (Below.refl w.heap.size w).alloc (Nat.le_refl _) (.cells #[.bool adv, .bool ini, .int .i64 n1] 23)
  have Ra := World.alloc_heap_new w (.cells #[.bool adv, .bool ini, .int .i64 n1] 23)
  have B1 := Ba.alloc (by rw [World.size_alloc]; omega) (.cells #[.int .u8 (d : Int), .bool c, .int .u8 (k : Int), .bool p, .int .u8 (s' : Int), .int .u8 (r : Int), .string i] 30)
  have R1 := (Below.heap_alloc (w.alloc (.cells #[.bool adv, .bool ini, .int .i64 n1] 23)) (.cells #[.int .u8 (d : Int), .bool c, .int .u8 (k : Int), .bool p, .int .u8 (s' : Int), .int .u8 (r : Int), .string i] 30) w.heap.size (by rw [World.size_alloc]; omega)).trans Ra
  have F1 : FrBlk ((w.alloc (.cells #[.bool adv, .bool ini, .int .i64 n1] 23)).alloc (.cells #[.int .u8 (d : Int), .bool c, .int .u8 (k : Int), .bool p, .int .u8 (s' : Int), .int .u8 (r : Int), .string i] 30)) (w.heap.size + 1) d c k p s' r i := by
    have := World.alloc_heap_new (w.alloc (.cells #[.bool adv, .bool ini, .int .i64 n1] 23)) (.cells #[.int .u8 (d : Int), .bool c, .int .u8 (k : Int), .bool p, .int .u8 (s' : Int), .int .u8 (r : Int), .string i] 30)
    rw [World.size_alloc] at this
    exact this
  clear Ba Ra
  obtain ⟨q0, q1, q2⟩ := row_cells R1
  obtain ⟨c0, c1, c2, c3, c4, c5, c6, _⟩ := zero_cells F1
  go_enter Tryd.func4, Tryd.ntmps4
  go_upto_region 1 with (fail)
  generalize (w.alloc (.cells #[.bool adv, .bool ini, .int .i64 n1] 23)).alloc (.cells #[.int .u8 (d : Int), .bool c, .int .u8 (k : Int), .bool p, .int .u8 (s' : Int), .int .u8 (r : Int), .string i] 30) = w1 at *
  by_cases h6 : 600 < s.size
  · have h6' : (600 : Int) < (s.size : Int) := by omega
    go_wp2_with fail
    refine (works_any _ (HO.out _ B1) (HF.out _ B1)).mono ?_
    rintro e w2 ⟨rfl, b2⟩
    have B2 := below_step B1 (Nat.le_refl _) b2
    go_wp2
    go_ret
    exact ⟨rfl, B2⟩
  have h6' : ¬ (600 : Int) < (s.size : Int) := by omega
  by_cases h7 : 128 < i.size
  · have h7' : (128 : Int) < (i.size : Int) := by omega
    go_wp2_with fail
    refine (works_any _ (HO.out _ B1) (HF.out _ B1)).mono ?_
    rintro e w2 ⟨rfl, b2⟩
    have B2 := below_step B1 (Nat.le_refl _) b2
    go_wp2
    go_ret
    exact ⟨rfl, B2⟩
  have h7' : ¬ (128 : Int) < (i.size : Int) := by omega
  obtain ⟨x, e0, hE, hx6, hx2, hFa, hFb⟩ := enc_say adv ⟨d, c, k, p, s', r, i⟩ ini n1
  have HE := hide (encoded_any adv ini n1 ⟨d, c, k, p, s', r, i⟩ x e0 w1 (HO.out _ B1) (HF.out _ B1) h0 h1 h2 h3 hi hE hx2 hx6)
  unfold Fr.v frV at HE
  clear hE
  obtain ⟨ok, hok⟩ : ∃ ok, decide (e0 = 0) = ok := ⟨_, rfl⟩
  rw [hok] at HE
  go_wp2_with fail
  refine HE.out.mono ?_
  rintro e w2 ⟨rfl, b2⟩
  have R2 := (b2.block _ (Array.getElem?_eq_some_iff.1 R1).1).trans R1
  have F2 := (b2.block _ (Array.getElem?_eq_some_iff.1 F1).1).trans F1
  have B2 := below_step B1 (Nat.le_refl _) b2
  clear HE b2 B1 c0 c1 c2 c3 c4 c5 c6 q0 q1 q2 R1 F1
  cases ok with
  | false =>
    go_wp2_with fail
    refine (works_any _ (HO.out _ B2) (HF.out _ B2)).mono ?_
    rintro e w3 ⟨rfl, b3⟩
    have B3 := below_step B2 (Nat.le_refl _) b3
    go_wp2
    go_ret
    exact ⟨rfl, B3⟩
  | true =>
    have he0 : e0 = 0 := of_decide_eq_true hok
    replace hx2 := hx2 he0
    replace hFa := hFa he0
    replace hFb := (hFb he0).1
    clear hok he0
    obtain ⟨q0, q1, q2⟩ := row_cells R2
    have hs2 : w.heap.size + 1 < w2.heap.size := (Array.getElem?_eq_some_iff.1 F2).1
    go_wp2_with fail
    refine (new_any adv ini n1 w2).mono ?_
    rintro e w3 ⟨rfl, fr, b3⟩
    have R3 := (b3.block _ (Array.getElem?_eq_some_iff.1 R2).1).trans R2
    have F3 : FrBlk w3 (w.heap.size + 1) d c k p s' r i := (b3.block _ (Array.getElem?_eq_some_iff.1 F2).1).trans F2
    have B3 := below_step B2 (Nat.le_refl _) b3
    clear R2 F2 q0 q1 q2 B2 b3
    obtain ⟨gd, hgd⟩ : ∃ gd, w2.heap.size = gd := ⟨_, rfl⟩
    rw [hgd] at fr hs2 ⊢
    clear hgd
    have D3 := fr.at (Nat.le_refl gd)
    clear fr
    have hwg : w.heap.size ≤ gd := by omega
    have HFD := hide (feed_any adv ini n1 gd gd ⟨0, [], 0⟩ s w3 (fun W hW => HO.out W (B3.trans (hW.mono hwg))) (fun W hW => HF.out W (B3.trans (hW.mono hwg))) D3 (ok_fresh _ _) (by show 0 + s.size ≤ 50000; omega))
    have hbd := feed_bad adv ini n1 ⟨0, [], 0⟩ s.size (bl s) (bl_length s)
    have hko := ok_feed (ini := ini) (ok_fresh adv n1) (bl s) (bl_bytes s)
    go_wp2_with fail
    refine HFD.out.mono ?_
    rintro e w4 ⟨v4, rfl, hA⟩
    have D4 := hA.d
    have K4 := hA.keep
    clear hA HFD D3
    generalize (feedS adv ini n1 ⟨0, [], 0⟩ (bl s)).1 = x4 at *
    have hbd4 : x4.bad ≤ 600 := by have : x4.bad ≤ 0 + s.size := hbd; omega
    clear hbd
    generalize (feedS adv ini n1 ⟨0, [], 0⟩ (bl s)).2.2 = l4 at *
    have R4 := (K4.below.block _ (by omega)).trans R3
    have F4 : FrBlk w4 (w.heap.size + 1) d c k p s' r i := (K4.below.block _ hs2).trans F3
    have B4 := B3.trans (K4.below.mono hwg)
    clear R3 F3 B3 K4
    have hxb : x[0].toNat = fl adv := by have := bl_getD x 0 (by omega); rw [← this]; exact hFb
    have hfl := fl_lt adv
    have hx0 : (0 : Int) < (x.size : Int) := by omega
    go_wp2
    go_loopw [10] (fun i wr => ∃ j : Nat, (j : Int) ≤ room n1 + 8 ∧ i = .int .i64 (j : Int) ∧ DefAt adv ini n1 gd gd (feedS adv ini n1 x4 (List.replicate j (fl adv))).1 wr ∧ Keeps gd gd w4 wr) (fun i _ => (room n1 + 8).toNat - (intOf i).toNat)
    case atStart => exact ⟨0, by omega, rfl, D4, Keeps.refl _ _ _⟩
    case round =>
      clear D4
      obtain ⟨j, hjr, rfl, hd, hkp⟩ := hrel
      have R5 := (hkp.below.block _ (by omega)).trans R4
      have F5 : FrBlk wr (w.heap.size + 1) d c k p s' r i := (hkp.below.block _ hs2).trans F4
      have B5 := B4.trans (hkp.below.mono hwg)
      clear R4 F4 B4
      obtain ⟨q0, q1, q2⟩ := row_cells R5
      have hby : Bytes (List.replicate j (fl adv)) := fun y hy => by rw [List.eq_of_mem_replicate hy]; exact hfl
      have hk5 := ok_feed (ini := ini) hko _ hby
      have hb5 := feed_bad adv ini n1 x4 j (List.replicate j (fl adv)) (by simp)
      have hw8 : IntKind.i64.wrap (room n1 + 8) = room n1 + 8 := IntWalk.i64_in _ (by omega)
      by_cases hjl : (j : Int) < room n1 + 8
      · go_wp2_with fail
        refine (Bs.rroom_any n1 wr).mono ?_
        rintro e w5 ⟨rfl, rfl⟩
        have HN := hide (feed1_any adv ini n1 gd gd _ (fl adv) wr (fun W hW => HO.out W (B5.trans (hW.mono hwg))) (fun W hW => HF.out W (B5.trans (hW.mono hwg))) (by omega) hd hk5 (by omega))
        have hsn := congrArg Prod.fst (feed_snoc adv ini n1 x4 (List.replicate j (fl adv)) (fl adv))
        rw [← List.replicate_succ'] at hsn
        dsimp only at hsn
        rw [← hsn] at HN
        go_wp2_with fail
        refine HN.out.mono ?_
        rintro e w6 ⟨rfl, hd6, hk6⟩
        obtain ⟨v6, hv6⟩ := outV_ret (stepS adv ini n1 (feedS adv ini n1 x4 (List.replicate j (fl adv))).1 (fl adv)).2
        rw [hv6]
        clear hv6
        go_wp2
        go_roundw
        case rel => exact ⟨j + 1, by omega, by go_num, hd6, hkp.trans hk6⟩
        case measure => simp [intOf]; omega
      · have hj8 : (j : Int) = room n1 + 8 := by omega
        obtain ⟨hn6, hg6⟩ := flags_begin (adv := adv) (ini := ini) (x := x4) hko (k := j) (by omega)
        generalize (feedS adv ini n1 x4 (List.replicate j (fl adv))).1 = y at *
        have hFy := hFa y (.inr ⟨hn6, hg6⟩)
        clear hn6 hg6 hFa
        have HBA := hide (bad_any adv ini n1 gd gd y wr hd)
        have HFD := hide (feed_any adv ini n1 gd gd y x wr (fun W hW => HO.out W (B5.trans (hW.mono hwg))) (fun W hW => HF.out W (B5.trans (hW.mono hwg))) hd hk5 (by omega))
        rw [hFy] at HFD
        go_wp2_with fail
        refine (Bs.rroom_any n1 wr).mono ?_
        rintro e w5 ⟨rfl, rfl⟩
        go_wp2_with fail
        refine HBA.out.mono ?_
        rintro e w6 ⟨rfl, rfl⟩
        go_wp2_with fail
        refine HFD.out.mono ?_
        rintro e w7 ⟨v7, rfl, hA⟩
        have D7 := hA.d
        have K7 := hA.keep
        have r7 := hA.row
        rw [hFy] at D7 r7
        dsimp only at D7 r7
        have F7 : FrBlk w7 (w.heap.size + 1) d c k p s' r i := (K7.below.block _ hs2).trans F5
        have B8 := B5.trans (K7.below.mono hwg)
        obtain ⟨g1, c1, rfl, _, l1, e1⟩ := row_some r7 (Nat.zero_lt_one)
        obtain ⟨v8, hb8, _⟩ := D7.row
        obtain ⟨bad, hbad⟩ : ∃ bad, y.bad = bad := ⟨_, rfl⟩
        rw [hbad] at hb8 ⊢
        obtain ⟨gf, hgf⟩ : ∃ gf, w.heap.size + 1 = gf := ⟨_, rfl⟩
        rw [hgf] at F7 ⊢
        obtain ⟨f, hff⟩ : ∃ f : Fr, f = ⟨d, c, k, p, s', r, i⟩ := ⟨_, rfl⟩
        have hS8 : CF adv ini n1 bad gd g1 gf ⟨d, c, k, p, s', r, i⟩ w7 := ⟨fun j hj => e1 j hj, F7, _, _, hb8⟩
        clear hbad hgf HBA HFD hA D7 K7 r7 F7 F5 R5 B5 hkp hd hFy e1 hb8 q0 q1 q2 hko hk5
        go_upto_region 14 with (fail)
        generalize w7 = w8 at *
        refine wp_region_held (S := fun W => CF adv ini n1 bad gd g1 gf ⟨d, c, k, p, s', r, i⟩ W) (by kernel_rfl) ?_
        change wpAnyH _ _ _ _ _ _ _ _ (World.drew _)
        have hS : CF adv ini n1 bad gd g1 gf ⟨d, c, k, p, s', r, i⟩ w8.drew := ⟨hS8.a, hS8.b, hS8.d⟩
        have B9 : Below w.heap.size w w8.drew := below_drewN B8 1
        clear hS8 B8
        generalize w8.drew = w9 at *
        refine take_atH 0 63 hS rfl rfl (by kernel_rfl) (by kernel_rfl) (by kernel_rfl) (fun _ _ _ h => h) rfl (fun wq hq => by go_simp; first | done | with_reducible rfl) ?_
        simp only [Act.put, List.setIfInBounds_toArray, List.set_cons_zero, List.set_cons_succ]
        refine take_atH 1 64 hS rfl rfl (by kernel_rfl) (by kernel_rfl) (by kernel_rfl) (fun _ _ _ h => h) rfl (fun wq hq => by go_simp; first | done | with_reducible rfl) ?_
        simp only [Act.put, List.setIfInBounds_toArray, List.set_cons_zero, List.set_cons_succ]
        refine take_atH 2 65 hS rfl rfl (by kernel_rfl) (by kernel_rfl) (by kernel_rfl) (fun _ _ _ h => h) rfl (fun wq hq => by go_simp; first | done | with_reducible rfl) ?_
        simp only [Act.put, List.setIfInBounds_toArray, List.set_cons_zero, List.set_cons_succ]
        refine take_atH 3 66 hS rfl rfl (by kernel_rfl) (by kernel_rfl) (by kernel_rfl) (fun _ _ _ h => h) rfl (fun wq hq => by go_simp; first | done | with_reducible rfl) ?_
        simp only [Act.put, List.setIfInBounds_toArray, List.set_cons_zero, List.set_cons_succ]
        refine take_atH 4 67 hS rfl rfl (by kernel_rfl) (by kernel_rfl) (by kernel_rfl) (fun _ _ _ h => h) rfl (fun wq hq => by go_simp; first | done | with_reducible rfl) ?_
        simp only [Act.put, List.setIfInBounds_toArray, List.set_cons_zero, List.set_cons_succ]
        refine take_atH 5 68 hS rfl rfl (by kernel_rfl) (by kernel_rfl) (by kernel_rfl) (fun _ _ _ h => h) rfl (fun wq hq => by go_simp; first | done | with_reducible rfl) ?_
        simp only [Act.put, List.setIfInBounds_toArray, List.set_cons_zero, List.set_cons_succ]
        refine take_atH 6 69 hS rfl rfl (by kernel_rfl) (by kernel_rfl) (by kernel_rfl) (fun _ _ _ h => h) rfl (fun wq hq => by go_simp; first | done | with_reducible rfl) ?_
        simp only [Act.put, List.setIfInBounds_toArray, List.set_cons_zero, List.set_cons_succ]
        refine take_atH 7 70 hS rfl rfl (by kernel_rfl) (by kernel_rfl) (by kernel_rfl) (fun _ _ _ h => h) rfl (fun wq hq => by go_simp; first | done | with_reducible rfl) ?_
        simp only [Act.put, List.setIfInBounds_toArray, List.set_cons_zero, List.set_cons_succ]
        refine take_atH 8 71 hS rfl rfl (by kernel_rfl) (by kernel_rfl) (by kernel_rfl) (fun _ _ _ h => h) rfl (fun wq hq => by go_simp; first | done | with_reducible rfl) ?_
        simp only [Act.put, List.setIfInBounds_toArray, List.set_cons_zero, List.set_cons_succ]
        refine take_atH 9 72 hS rfl rfl (by kernel_rfl) (by kernel_rfl) (by kernel_rfl) (fun _ _ _ h => h) rfl (fun wq hq => by obtain ⟨e0, e1, e2, e3, e4, e5, e6, z0, z1, z2, z3, z4, z5, z6⟩ := hq.cells; go_simp; first | done | with_reducible rfl) ?_
        simp only [Act.put, List.setIfInBounds_toArray, List.set_cons_zero, List.set_cons_succ]
        refine take_atH 10 73 hS rfl rfl (by kernel_rfl) (by kernel_rfl) (by kernel_rfl) (fun _ _ _ h => h) rfl (fun wq hq => by obtain ⟨e0, e1, e2, e3, e4, e5, e6, z0, z1, z2, z3, z4, z5, z6⟩ := hq.cells; go_simp; first | done | with_reducible rfl) ?_
        simp only [Act.put, List.setIfInBounds_toArray, List.set_cons_zero, List.set_cons_succ]
        refine take_atH 11 74 hS rfl rfl (by kernel_rfl) (by kernel_rfl) (by kernel_rfl) (fun _ _ _ h => h) rfl (fun wq hq => by go_simp; first | done | with_reducible rfl) ?_
        simp only [Act.put, List.setIfInBounds_toArray, List.set_cons_zero, List.set_cons_succ]
        refine take_atH 12 75 hS rfl rfl (by kernel_rfl) (by kernel_rfl) (by kernel_rfl) (fun _ _ _ h => h) rfl (fun wq hq => by go_simp; first | done | with_reducible rfl) ?_
        simp only [Act.put, List.setIfInBounds_toArray, List.set_cons_zero, List.set_cons_succ]
        refine take_atH 13 76 hS rfl rfl (by kernel_rfl) (by kernel_rfl) (by kernel_rfl) (fun _ _ _ h => h) rfl (fun wq hq => by go_simp; first | done | with_reducible rfl) ?_
        simp only [Act.put, List.setIfInBounds_toArray, List.set_cons_zero, List.set_cons_succ]
        refine take_atH 14 77 hS rfl rfl (by kernel_rfl) (by kernel_rfl) (by kernel_rfl) (fun _ _ _ h => h) rfl (fun wq hq => by go_simp; first | done | with_reducible rfl) ?_
        simp only [Act.put, List.setIfInBounds_toArray, List.set_cons_zero, List.set_cons_succ]
        refine take_atH 16 79 hS rfl rfl (by kernel_rfl) (by kernel_rfl) (by kernel_rfl) (fun _ _ _ h => h) rfl (fun wq hq => by go_simp; first | done | with_reducible rfl) ?_
        simp only [Act.put, List.setIfInBounds_toArray, List.set_cons_zero, List.set_cons_succ]
        refine lone_atH 15 rfl (by kernel_rfl) rfl (fun K hK => ?_)
        go_simp
        obtain ⟨vd, nd, hbd⟩ := (hS).d; refine (bad_of _ _ _ _ _ _ _ _ hbd).mono ?_; rintro e wN1 ⟨rfl, rfl⟩
        refine hK _ _ hS ?_; clear hK K
        refine take_atH 17 80 hS rfl rfl (by kernel_rfl) (by kernel_rfl) (by kernel_rfl) (fun _ _ _ h => h) rfl (fun wq hq => by go_simp; first | done | with_reducible rfl) ?_
        simp only [Act.put, List.setIfInBounds_toArray, List.set_cons_zero, List.set_cons_succ]
        refine take_atH 18 81 hS rfl rfl (by kernel_rfl) (by kernel_rfl) (by kernel_rfl) (fun _ _ _ h => h) rfl (fun wq hq => by go_simp; first | done | with_reducible rfl) ?_
        simp only [Act.put, List.setIfInBounds_toArray, List.set_cons_zero, List.set_cons_succ]
        refine take_atH 19 82 hS rfl rfl (by kernel_rfl) (by kernel_rfl) (by kernel_rfl) (fun _ _ _ h => h) rfl (fun wq hq => by go_simp; first | done | with_reducible rfl) ?_
        simp only [Act.put, List.setIfInBounds_toArray, List.set_cons_zero, List.set_cons_succ]
        refine lone_atH 20 rfl (by kernel_rfl) rfl (fun K hK => ?_)
        go_simp
        refine (works_any _ (HO.out _ B9) (HF.out _ B9)).mono ?_; rintro e wN2 ⟨rfl, bN2⟩
        refine (fun hN2 => hK _ _ hN2 ?_) ((hS).below bN2); clear hK K
        refine take_atH 21 84 hN2 rfl rfl (by kernel_rfl) (by kernel_rfl) (by kernel_rfl) (fun _ _ _ h => h) rfl (fun wq hq => by go_simp; first | done | with_reducible rfl) ?_
        simp only [Act.put, List.setIfInBounds_toArray, List.set_cons_zero, List.set_cons_succ]
        refine take_atH 22 6 hN2 rfl rfl (by kernel_rfl) (by kernel_rfl) (by kernel_rfl) (fun _ _ _ h => h) rfl (fun wq hq => by go_simp; first | done | with_reducible rfl) ?_
        simp only [Act.put, List.setIfInBounds_toArray, List.set_cons_zero, List.set_cons_succ]
        refine wpAnyH_done (by kernel_rfl) ?_ _
        go_wp2
        go_ret
        exact ⟨rfl, below_step B9 (Nat.le_refl _) bN2⟩
end Go.Proofs.YtnnimkailajgaaaDoor
