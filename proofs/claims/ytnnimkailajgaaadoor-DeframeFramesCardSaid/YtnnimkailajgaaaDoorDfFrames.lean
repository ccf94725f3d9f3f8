/- DeframeFrames: the walk. -/
import Derived.Test.YtnnimkailajgaaaDoorDfComes
import Derived.Test.YtnnimkailajgaaaDoorDfOpen
namespace Go.Proofs.YtnnimkailajgaaaDoor
open Go.RowKit
set_option linter.unusedVariables false
set_option linter.unusedSimpArgs false

/-- What region 10 reads: the row and the frame. -/
structure LF (adv ini : Bool) (n1 : Int) (rb lb lo k : Nat) (f : Fr) (W : World) : Prop where
  a : W.heap[rb]? = some (.cells #[.bool adv, .bool ini, .int .i64 n1] 23 (0, 0))
  b : ∀ j, j < 7 → W.cell? ⟨lb, lo + (k * 7 + j), none⟩ = (frC f)[j]?
theorem LF.below {adv ini : Bool} {n1 : Int} {rb lb lo k : Nat} {f : Fr} {W W' : World} (h : LF adv ini n1 rb lb lo k f W) (b : Below W.heap.size W W') : LF adv ini n1 rb lb lo k f W' := by
  have hl : lb < W.heap.size := World.block_lt_of_cell? W ⟨lb, lo + (k * 7 + 0), none⟩ (show W.cell? ⟨lb, lo + (k * 7 + 0), none⟩ = some (.int .u8 (f.d : Int)) from h.b 0 (by decide))
  exact ⟨(b.block rb (Array.getElem?_eq_some_iff.1 h.a).1).trans h.a, fun j hj => (b.cell (p := ⟨lb, _, none⟩) hl).trans (h.b j hj)⟩
theorem fr_at {lb lo k d kk s r : Nat} {c p : Bool} {i : ByteArray} {W : World} (h : ∀ j, j < 7 → W.cell? ⟨lb, lo + (k * 7 + j), none⟩ = (frC ⟨d, c, kk, p, s, r, i⟩)[j]?) :
    W.cell? ⟨lb, lo + k * 7, none⟩ = some (.int .u8 (d : Int)) ∧ W.cell? ⟨lb, lo + k * 7 + 1, none⟩ = some (.bool c) ∧ W.cell? ⟨lb, lo + k * 7 + 2, none⟩ = some (.int .u8 (kk : Int)) ∧ W.cell? ⟨lb, lo + k * 7 + 3, none⟩ = some (.bool p) ∧ W.cell? ⟨lb, lo + k * 7 + 4, none⟩ = some (.int .u8 (s : Int)) ∧ W.cell? ⟨lb, lo + k * 7 + 5, none⟩ = some (.int .u8 (r : Int)) ∧ W.cell? ⟨lb, lo + k * 7 + 6, none⟩ = some (.string i) := by
  have h' : ∀ j, j < 7 → W.cell? ⟨lb, lo + k * 7 + j, none⟩ = (frC ⟨d, c, kk, p, s, r, i⟩)[j]? := fun j hj => by rw [Nat.add_assoc]; exact h j hj
  exact ⟨h' 0 (by decide), h' 1 (by decide), h' 2 (by decide), h' 3 (by decide), h' 4 (by decide), h' 5 (by decide), h' 6 (by decide)⟩
theorem LF.cells {adv ini : Bool} {n1 : Int} {rb lb lo k d kk s r : Nat} {c p : Bool} {i : ByteArray} {W : World} (h : LF adv ini n1 rb lb lo k ⟨d, c, kk, p, s, r, i⟩ W) :
    W.cell? ⟨rb, 0, none⟩ = some (.bool adv) ∧ W.cell? ⟨rb, 1, none⟩ = some (.bool ini) ∧ W.cell? ⟨rb, 2, none⟩ = some (.int .i64 n1) ∧
    W.cell? ⟨lb, lo + k * 7, none⟩ = some (.int .u8 (d : Int)) ∧ W.cell? ⟨lb, lo + k * 7 + 1, none⟩ = some (.bool c) ∧ W.cell? ⟨lb, lo + k * 7 + 2, none⟩ = some (.int .u8 (kk : Int)) ∧ W.cell? ⟨lb, lo + k * 7 + 3, none⟩ = some (.bool p) ∧ W.cell? ⟨lb, lo + k * 7 + 4, none⟩ = some (.int .u8 (s : Int)) ∧ W.cell? ⟨lb, lo + k * 7 + 5, none⟩ = some (.int .u8 (r : Int)) ∧ W.cell? ⟨lb, lo + k * 7 + 6, none⟩ = some (.string i) := by
  obtain ⟨q0, q1, q2⟩ := row_cells h.a
  obtain ⟨e0, e1, e2, e3, e4, e5, e6⟩ := fr_at h.b
  exact ⟨q0, q1, q2, e0, e1, e2, e3, e4, e5, e6⟩
/-- What region 16 reads: the frame told, the frame given, the deframer. -/
structure GF (adv ini : Bool) (n1 : Int) (gd g1 lb lo k : Nat) (f : Fr) (W : World) : Prop where
  a : ∀ j, j < 7 → W.cell? ⟨g1, j, none⟩ = (frC f)[j]?
  b : ∀ j, j < 7 → W.cell? ⟨lb, lo + (k * 7 + j), none⟩ = (frC f)[j]?
  d : ∃ v n, W.heap[gd]? = some (dfr adv ini n1 v 0 n gd)
theorem GF.cells {adv ini : Bool} {n1 : Int} {gd g1 lb lo k d kk s r : Nat} {c p : Bool} {i : ByteArray} {W : World} (h : GF adv ini n1 gd g1 lb lo k ⟨d, c, kk, p, s, r, i⟩ W) :
    W.cell? ⟨g1, 0, none⟩ = some (.int .u8 (d : Int)) ∧ W.cell? ⟨g1, 1, none⟩ = some (.bool c) ∧ W.cell? ⟨g1, 2, none⟩ = some (.int .u8 (kk : Int)) ∧ W.cell? ⟨g1, 3, none⟩ = some (.bool p) ∧ W.cell? ⟨g1, 4, none⟩ = some (.int .u8 (s : Int)) ∧ W.cell? ⟨g1, 5, none⟩ = some (.int .u8 (r : Int)) ∧ W.cell? ⟨g1, 6, none⟩ = some (.string i) ∧
    W.cell? ⟨lb, lo + k * 7, none⟩ = some (.int .u8 (d : Int)) ∧ W.cell? ⟨lb, lo + k * 7 + 1, none⟩ = some (.bool c) ∧ W.cell? ⟨lb, lo + k * 7 + 2, none⟩ = some (.int .u8 (kk : Int)) ∧ W.cell? ⟨lb, lo + k * 7 + 3, none⟩ = some (.bool p) ∧ W.cell? ⟨lb, lo + k * 7 + 4, none⟩ = some (.int .u8 (s : Int)) ∧ W.cell? ⟨lb, lo + k * 7 + 5, none⟩ = some (.int .u8 (r : Int)) ∧ W.cell? ⟨lb, lo + k * 7 + 6, none⟩ = some (.string i) := by
  obtain ⟨e0, e1, e2, e3, e4, e5, e6⟩ := fr_at h.b
  exact ⟨h.a 0 (by decide), h.a 1 (by decide), h.a 2 (by decide), h.a 3 (by decide), h.a 4 (by decide), h.a 5 (by decide), h.a 6 (by decide), e0, e1, e2, e3, e4, e5, e6⟩
theorem bad_zero {adv ini : Bool} {n1 : Int} {g n : Nat} {v : Value} {W : World} (h : W.heap[g]? = some (dfr adv ini n1 v 0 n g)) :
    Calls Tryd.prog 10 #[.pointer (some ⟨g, 0, none⟩)] W fun e w' => e = .returned (.int .i64 0) ∧ W = w' := bad_of adv ini n1 g 0 n v W h

set_option maxRecDepth 100000 in
set_option maxHeartbeats 4000000 in
theorem deframeFrames_any (adv ini : Bool) (n1 : Int) (a : Option Addr) (n ca : Nat) (z : Nat → Fr) (a2 : Option Addr) (m c2 : Nat) (y : Nat → Bool) (w : World) (hh : Octs w) (hf : Half w) (hL : HoldsF w a n z) (hz : n ≤ maxLen ∧ ∀ j, j < n → (z j).d ≤ 255 ∧ (z j).k ≤ 255 ∧ (z j).s ≤ 255 ∧ (z j).r ≤ 255 ∧ (z j).i.size ≤ maxLen) (hB : HoldsB w a2 m y) (hm : m ≤ maxLen) :
    Calls Tryd.prog 3 #[.agg #[.bool adv, .bool ini, .int .i64 n1], .slice a n ca, .slice a2 m c2] w fun e w' => e = .returned (.bool true) ∧ Below w.heap.size w w' := by
  obtain ⟨hn, hz⟩ := hz
  unfold maxLen at hn hm
  have HO := hide (fun W (hb : Below w.heap.size w W) => hh.below hb)
  have HF := hide (fun W (hb : Below w.heap.size w W) => hf.below hb)
  have HL := hide hL
  have HZ := hide hz
  have HB := hide hB
  clear hh hf hL hz hB
  have B1 := (Below.refl w.heap.size w).alloc (Nat.le_refl _) (.cells #[.bool adv, .bool ini, .int .i64 n1] 23)
  have R1 := World.alloc_heap_new w (.cells #[.bool adv, .bool ini, .int .i64 n1] 23)
  have hs1 : w.heap.size < (w.alloc (.cells #[.bool adv, .bool ini, .int .i64 n1] 23)).heap.size := by rw [World.size_alloc]; omega
  by_cases h6 : 20 < n
  · have h6' : (20 : Int) < (n : Int) := by omega
    clear R1 hs1
    go_enter Tryd.func3, Tryd.ntmps3
    go_wp2_with fail
    refine (works_any _ (HO.out _ B1) (HF.out _ B1)).mono ?_
    rintro e w2 ⟨rfl, b2⟩
    have B2 := below_step B1 (Nat.le_refl _) b2
    go_wp2
    go_ret
    exact ⟨rfl, B2⟩
  have h6' : ¬ (20 : Int) < (n : Int) := by omega
  obtain ⟨q0, q1, q2⟩ := row_cells R1
  go_enter Tryd.func3, Tryd.ntmps3
  go_upto_region 3 with (fail)
  generalize w.alloc (.cells #[.bool adv, .bool ini, .int .i64 n1] 23) = w1 at *
  go_wp2_with fail
  refine (new_any adv ini n1 w1).mono ?_
  rintro e w2 ⟨rfl, fr, b2⟩
  have R2 := (b2.block _ hs1).trans R1
  have B2 := below_step B1 (Nat.le_refl _) b2
  clear R1 q0 q1 q2 B1 b2
  obtain ⟨gd, hgd⟩ : ∃ gd, w1.heap.size = gd := ⟨_, rfl⟩
  rw [hgd] at fr hs1 ⊢
  clear hgd
  have D2 := fr.at (Nat.le_refl gd)
  clear fr
  have hwg := Nat.le_of_lt hs1
  go_wp2
  go_loopw [8, 9] (fun t i wr => ∃ k : Nat, ∃ sm : Bool, k ≤ n ∧ i = .int .i64 (k : Int) ∧ t = .bool sm ∧ DefAt adv ini n1 gd gd ⟨if sm then 1 else 0, [], 0⟩ wr ∧ Keeps gd gd w2 wr) (fun _ i _ => n - (intOf i).toNat)
  case atStart => exact ⟨0, false, by omega, rfl, rfl, D2, Keeps.refl _ _ _⟩
  case round =>
    clear D2
    obtain ⟨k, sm, hks, rfl, rfl, hd, hkp⟩ := hrel
    have Bw := B2.trans (hkp.below.mono hwg)
    have R3 := (hkp.below.block _ hs1).trans R2
    clear B2 R2
    by_cases hkl : k < n
    · have hkl' : (k : Int) < (n : Int) := by omega
      obtain ⟨lb, lo, rfl, hlb, hlc⟩ := HL.out (by omega)
      have hl3 : ∀ j, j < 7 → wr.cell? ⟨lb, lo + (k * 7 + j), none⟩ = (frC (z k))[j]? := fun j hj => (Bw.cell (p := ⟨lb, _, none⟩) hlb).trans (hlc k hkl j hj)
      obtain ⟨hf1, hf2, hf3, hf4, hf5⟩ := HZ.out k hkl
      generalize z k = f at *
      obtain ⟨d, c, kk, p, s', r, i⟩ := f
      dsimp only at hf1 hf2 hf3 hf4 hf5
      have hf5' := hf5
      unfold maxLen at hf5'
      obtain ⟨e0, e1, e2, e3, e4, e5, e6⟩ := fr_at hl3
      clear hlc
      by_cases h7 : 128 < i.size
      · have h7' : (128 : Int) < (i.size : Int) := by omega
        go_wp2_with fail
        refine (works_any _ (HO.out _ Bw) (HF.out _ Bw)).mono ?_
        rintro e w3 ⟨rfl, b3⟩
        have B3 := below_step Bw (Nat.le_refl _) b3
        go_wp2
        go_ret
        exact ⟨rfl, B3⟩
      have h7' : ¬ (128 : Int) < (i.size : Int) := by omega
      obtain ⟨x, e9, hE, hx6, hx2, hFa, hFb⟩ := enc_say adv ⟨d, c, kk, p, s', r, i⟩ ini n1
      have Bd : Below w.heap.size w wr.drew := below_drewN Bw 1
      have HE := hide (encoded_any adv ini n1 ⟨d, c, kk, p, s', r, i⟩ x e9 wr.drew (HO.out _ Bd) (HF.out _ Bd) hf1 hf2 hf3 hf4 hf5 hE hx2 hx6)
      unfold Fr.v frV at HE
      clear hE
      obtain ⟨ok, hok⟩ : ∃ ok, decide (e9 = 0) = ok := ⟨_, rfl⟩
      rw [hok] at HE
      have hS4 : LF adv ini n1 w.heap.size lb lo k ⟨d, c, kk, p, s', r, i⟩ wr.drew := ⟨R3, hl3⟩
      have hd4 := hd.drewN 1
      have hk4 : Keeps gd gd w2 wr.drew := ⟨below_drewN hkp.below 1, hkp.keep⟩
      have B4 : Below w.heap.size w wr.drew := Bd
      replace hd4 : DefAt adv ini n1 gd gd ⟨if sm then 1 else 0, [], 0⟩ wr.drew := hd4
      go_upto_region 10 with (fail)
      clear hd hkp Bw R3 hl3 e0 e1 e2 e3 e4 e5 e6 Bd
      refine wp_region_held (S := fun W => LF adv ini n1 w.heap.size lb lo k ⟨d, c, kk, p, s', r, i⟩ W) (by kernel_rfl) ?_
      change wpAnyH _ _ _ _ _ _ _ _ (World.drew _)
      have hS := hS4
      generalize wr.drew = w4 at *
      refine take_atH 0 40 hS rfl rfl (by kernel_rfl) (by kernel_rfl) (by kernel_rfl) (fun _ _ _ h => h) rfl (fun wq hq => by obtain ⟨q0, q1, q2, e0, e1, e2, e3, e4, e5, e6⟩ := hq.cells; go_simp; first | done | with_reducible rfl) ?_
      simp only [Act.put, List.setIfInBounds_toArray, List.set_cons_zero, List.set_cons_succ]
      refine take_atH 1 41 hS rfl rfl (by kernel_rfl) (by kernel_rfl) (by kernel_rfl) (fun _ _ _ h => h) rfl (fun wq hq => by go_simp; first | done | with_reducible rfl) ?_
      simp only [Act.put, List.setIfInBounds_toArray, List.set_cons_zero, List.set_cons_succ]
      refine take_atH 2 42 hS rfl rfl (by kernel_rfl) (by kernel_rfl) (by kernel_rfl) (fun _ _ _ h => h) rfl (fun wq hq => by go_simp; first | done | with_reducible rfl) ?_
      simp only [Act.put, List.setIfInBounds_toArray, List.set_cons_zero, List.set_cons_succ]
      refine take_atH 3 43 hS rfl rfl (by kernel_rfl) (by kernel_rfl) (by kernel_rfl) (fun _ _ _ h => h) rfl (fun wq hq => by go_simp; first | done | with_reducible rfl) ?_
      simp only [Act.put, List.setIfInBounds_toArray, List.set_cons_zero, List.set_cons_succ]
      refine take_atH 4 44 hS rfl rfl (by kernel_rfl) (by kernel_rfl) (by kernel_rfl) (fun _ _ _ h => h) rfl (fun wq hq => by obtain ⟨q0, q1, q2, e0, e1, e2, e3, e4, e5, e6⟩ := hq.cells; go_simp; first | done | with_reducible rfl) ?_
      simp only [Act.put, List.setIfInBounds_toArray, List.set_cons_zero, List.set_cons_succ]
      refine lone_atH 5 rfl (by kernel_rfl) rfl (fun K hK => ?_)
      go_simp
      refine HE.out.mono ?_; rintro e wN1 ⟨rfl, bN1⟩
      refine (fun hN1 => hK _ _ hN1 ?_) ((hS).below bN1); clear hK K
      refine take_atH 6 39 hN1 rfl rfl (by kernel_rfl) (by kernel_rfl) (by kernel_rfl) (fun _ _ _ h => h) rfl (fun wq hq => by go_simp; first | done | with_reducible rfl) ?_
      simp only [Act.put, List.setIfInBounds_toArray, List.set_cons_zero, List.set_cons_succ]
      refine take_atH 7 46 hN1 rfl rfl (by kernel_rfl) (by kernel_rfl) (by kernel_rfl) (fun _ _ _ h => h) rfl (fun wq hq => by go_simp; first | done | with_reducible rfl) ?_
      simp only [Act.put, List.setIfInBounds_toArray, List.set_cons_zero, List.set_cons_succ]
      refine take_atH 8 47 hN1 rfl rfl (by kernel_rfl) (by kernel_rfl) (by kernel_rfl) (fun _ _ _ h => h) rfl (fun wq hq => by go_simp; first | done | with_reducible rfl) ?_
      simp only [Act.put, List.setIfInBounds_toArray, List.set_cons_zero, List.set_cons_succ]
      refine take_atH 9 10 hN1 rfl rfl (by kernel_rfl) (by kernel_rfl) (by kernel_rfl) (fun _ _ _ h => h) rfl (fun wq hq => by go_simp; first | done | with_reducible rfl) ?_
      simp only [Act.put, List.setIfInBounds_toArray, List.set_cons_zero, List.set_cons_succ]
      refine take_atH 10 11 hN1 rfl rfl (by kernel_rfl) (by kernel_rfl) (by kernel_rfl) (fun _ _ _ h => h) rfl (fun wq hq => by go_simp; first | done | with_reducible rfl) ?_
      simp only [Act.put, List.setIfInBounds_toArray, List.set_cons_zero, List.set_cons_succ]
      refine wpAnyH_done (by kernel_rfl) ?_ _
      have hS5 := hN1
      clear hS hN1 HE
      have hd5 := hd4.below bN1
      have hk5 := hk4.trans (Keeps.ofBelow (Nat.le_of_lt hd4.lt) bN1)
      have B5 := below_step B4 (Nat.le_refl _) bN1
      clear hd4 hk4 B4 bN1
      generalize wN1 = w5 at *
      cases ok with
      | false =>
        go_wp2
        go_roundw
        case rel => exact ⟨k + 1, sm, hkl, by go_num, rfl, hd5, hk5⟩
        case measure => simp [intOf]; omega
      | true =>
        have he0 : e9 = 0 := of_decide_eq_true hok
        replace hx2 := hx2 he0
        replace hFa := hFa he0 ⟨if sm then 1 else 0, [], 0⟩ (by cases sm; exact .inl rfl; exact .inr ⟨rfl, rfl⟩)
        replace hFb := (hFb he0).2 0
        clear hok he0
        obtain ⟨tk, htk⟩ : ∃ tk : Bool, (sm && (decide (k < m) && y k)) = tk := ⟨_, rfl⟩
        obtain ⟨xs, hxs⟩ : ∃ xs, (if tk then x.extract 1 x.size else x) = xs := ⟨_, rfl⟩
        have hFx : feedS adv ini n1 ⟨if sm then 1 else 0, [], 0⟩ (bl xs) = (⟨1, [], 0⟩, [⟨d, c, kk, p, s', r, i⟩], true) := by
          cases tk with
          | false => rw [← hxs]; exact hFa
          | true =>
            rw [← hxs]
            cases sm with
            | false => cases htk
            | true => exact hFb
        have hxl : xs.size ≤ 600 := by
          rw [← hxs]
          split
          · rw [ByteArray.size_extract]; omega
          · exact hx6
        clear hFa hFb
        go_upto_region 12 with (fail)
        go_cut [62] (fun s62 wx => s62 = .bool tk ∧ w5 = wx)
        case first =>
          cases sm with
          | false =>
            go_wp2
            go_meet
            exact ⟨by rw [← htk]; rfl, rfl⟩
          | true =>
            by_cases hkm : k < m
            · have hkm' : (k : Int) < (m : Int) := by omega
              obtain ⟨bb, bo, rfl, hbl, hbc⟩ := HB.out (by omega)
              have hyk := (B5.cell (p := ⟨bb, _, none⟩) hbl).trans (hbc k hkm)
              cases hy : y k with
              | false =>
                rw [hy] at hyk
                go_wp2
                go_meet
                exact ⟨by rw [← htk, hy]; simp, rfl⟩
              | true =>
                rw [hy] at hyk
                go_wp2
                go_meet
                exact ⟨by rw [← htk, hy]; simp [hkm], rfl⟩
            · have hkm' : ¬ (k : Int) < (m : Int) := by omega
              go_wp2
              go_meet
              exact ⟨by rw [← htk]; simp [hkm], rfl⟩
        case rest =>
          obtain ⟨rfl, rfl⟩ := hcut
          have hx1 : (1 : Int) ≤ (x.size : Int) := by omega
          cases tk with
          | false =>
          have e : x = xs := by rw [← hxs]; rfl
          have HFD := hide (feed_any adv ini n1 gd gd ⟨if sm then 1 else 0, [], 0⟩ xs w5 (fun W hW => HO.out W (B5.trans (hW.mono hwg))) (fun W hW => HF.out W (B5.trans (hW.mono hwg))) hd5 (by cases sm; exact ok_fresh _ _; exact ok_begin 0) (by show 0 + xs.size ≤ 50000; omega))
          rw [hFx] at HFD
          go_wp2_with fail
          refine HFD.out.mono ?_
          rintro e w6 ⟨v6, rfl, hA⟩
          have hd6 := hA.d
          have K6 := hA.keep
          have r6 := hA.row
          rw [hFx] at hd6 r6
          dsimp only at hd6 r6
          have hk6 := hk5.trans K6
          have hwl : w.heap.size ≤ w5.heap.size := B5.size
          have e6 : ∀ j, j < 7 → w6.cell? ⟨lb, lo + (k * 7 + j), none⟩ = (frC ⟨d, c, kk, p, s', r, i⟩)[j]? := fun j hj => (K6.below.cell (p := ⟨lb, _, none⟩) (Nat.lt_of_lt_of_le hlb hwg)).trans (hS5.b j hj)
          obtain ⟨g1, c1, rfl, _, l1, e1⟩ := row_some r6 (Nat.zero_lt_one)
          obtain ⟨v8, hb8, _⟩ := hd6.row
          have hS8 : GF adv ini n1 gd g1 lb lo k ⟨d, c, kk, p, s', r, i⟩ w6 := ⟨fun j hj => e1 j hj, e6, _, _, hb8⟩
          clear hA HFD K6 r6 e6 e1 hb8 hd5 hk5 B5 hS5 hFx
          go_upto_region 16 with (fail)
          refine wp_region_held (S := fun W => GF adv ini n1 gd g1 lb lo k ⟨d, c, kk, p, s', r, i⟩ W) (by kernel_rfl) ?_
          change wpAnyH _ _ _ _ _ _ _ _ (World.drew _)
          have hS : GF adv ini n1 gd g1 lb lo k ⟨d, c, kk, p, s', r, i⟩ w6.drew := ⟨hS8.a, hS8.b, hS8.d⟩
          have hd7 := hd6.drewN 1
          replace hd7 : DefAt adv ini n1 gd gd ⟨1, [], 0⟩ w6.drew := hd7
          have hk7 : Keeps gd gd w2 w6.drew := ⟨below_drewN hk6.below 1, hk6.keep⟩
          clear hS8 hd6 hk6
          generalize w6.drew = w7 at *
          refine take_atH 0 71 hS rfl rfl (by kernel_rfl) (by kernel_rfl) (by kernel_rfl) (fun _ _ _ h => h) rfl (fun wq hq => by go_simp; first | done | with_reducible rfl) ?_
          simp only [Act.put, List.setIfInBounds_toArray, List.set_cons_zero, List.set_cons_succ]
          refine take_atH 1 72 hS rfl rfl (by kernel_rfl) (by kernel_rfl) (by kernel_rfl) (fun _ _ _ h => h) rfl (fun wq hq => by go_simp; first | done | with_reducible rfl) ?_
          simp only [Act.put, List.setIfInBounds_toArray, List.set_cons_zero, List.set_cons_succ]
          refine take_atH 2 73 hS rfl rfl (by kernel_rfl) (by kernel_rfl) (by kernel_rfl) (fun _ _ _ h => h) rfl (fun wq hq => by go_simp; first | done | with_reducible rfl) ?_
          simp only [Act.put, List.setIfInBounds_toArray, List.set_cons_zero, List.set_cons_succ]
          refine take_atH 3 74 hS rfl rfl (by kernel_rfl) (by kernel_rfl) (by kernel_rfl) (fun _ _ _ h => h) rfl (fun wq hq => by go_simp; first | done | with_reducible rfl) ?_
          simp only [Act.put, List.setIfInBounds_toArray, List.set_cons_zero, List.set_cons_succ]
          refine take_atH 4 75 hS rfl rfl (by kernel_rfl) (by kernel_rfl) (by kernel_rfl) (fun _ _ _ h => h) rfl (fun wq hq => by go_simp; first | done | with_reducible rfl) ?_
          simp only [Act.put, List.setIfInBounds_toArray, List.set_cons_zero, List.set_cons_succ]
          refine take_atH 5 76 hS rfl rfl (by kernel_rfl) (by kernel_rfl) (by kernel_rfl) (fun _ _ _ h => h) rfl (fun wq hq => by go_simp; first | done | with_reducible rfl) ?_
          simp only [Act.put, List.setIfInBounds_toArray, List.set_cons_zero, List.set_cons_succ]
          refine take_atH 6 77 hS rfl rfl (by kernel_rfl) (by kernel_rfl) (by kernel_rfl) (fun _ _ _ h => h) rfl (fun wq hq => by go_simp; first | done | with_reducible rfl) ?_
          simp only [Act.put, List.setIfInBounds_toArray, List.set_cons_zero, List.set_cons_succ]
          refine take_atH 7 78 hS rfl rfl (by kernel_rfl) (by kernel_rfl) (by kernel_rfl) (fun _ _ _ h => h) rfl (fun wq hq => by go_simp; first | done | with_reducible rfl) ?_
          simp only [Act.put, List.setIfInBounds_toArray, List.set_cons_zero, List.set_cons_succ]
          refine take_atH 8 79 hS rfl rfl (by kernel_rfl) (by kernel_rfl) (by kernel_rfl) (fun _ _ _ h => h) rfl (fun wq hq => by go_simp; first | done | with_reducible rfl) ?_
          simp only [Act.put, List.setIfInBounds_toArray, List.set_cons_zero, List.set_cons_succ]
          refine take_atH 9 80 hS rfl rfl (by kernel_rfl) (by kernel_rfl) (by kernel_rfl) (fun _ _ _ h => h) rfl (fun wq hq => by go_simp; first | done | with_reducible rfl) ?_
          simp only [Act.put, List.setIfInBounds_toArray, List.set_cons_zero, List.set_cons_succ]
          refine take_atH 10 81 hS rfl rfl (by kernel_rfl) (by kernel_rfl) (by kernel_rfl) (fun _ _ _ h => h) rfl (fun wq hq => by obtain ⟨e0, e1, e2, e3, e4, e5, e6, z0, z1, z2, z3, z4, z5, z6⟩ := hq.cells; go_simp; first | done | with_reducible rfl) ?_
          simp only [Act.put, List.setIfInBounds_toArray, List.set_cons_zero, List.set_cons_succ]
          refine take_atH 11 82 hS rfl rfl (by kernel_rfl) (by kernel_rfl) (by kernel_rfl) (fun _ _ _ h => h) rfl (fun wq hq => by go_simp; first | done | with_reducible rfl) ?_
          simp only [Act.put, List.setIfInBounds_toArray, List.set_cons_zero, List.set_cons_succ]
          refine take_atH 12 83 hS rfl rfl (by kernel_rfl) (by kernel_rfl) (by kernel_rfl) (fun _ _ _ h => h) rfl (fun wq hq => by go_simp; first | done | with_reducible rfl) ?_
          simp only [Act.put, List.setIfInBounds_toArray, List.set_cons_zero, List.set_cons_succ]
          refine take_atH 13 84 hS rfl rfl (by kernel_rfl) (by kernel_rfl) (by kernel_rfl) (fun _ _ _ h => h) rfl (fun wq hq => by go_simp; first | done | with_reducible rfl) ?_
          simp only [Act.put, List.setIfInBounds_toArray, List.set_cons_zero, List.set_cons_succ]
          refine take_atH 14 85 hS rfl rfl (by kernel_rfl) (by kernel_rfl) (by kernel_rfl) (fun _ _ _ h => h) rfl (fun wq hq => by obtain ⟨e0, e1, e2, e3, e4, e5, e6, z0, z1, z2, z3, z4, z5, z6⟩ := hq.cells; go_simp; first | done | with_reducible rfl) ?_
          simp only [Act.put, List.setIfInBounds_toArray, List.set_cons_zero, List.set_cons_succ]
          refine take_atH 15 86 hS rfl rfl (by kernel_rfl) (by kernel_rfl) (by kernel_rfl) (fun _ _ _ h => h) rfl (fun wq hq => by go_simp; first | done | with_reducible rfl) ?_
          simp only [Act.put, List.setIfInBounds_toArray, List.set_cons_zero, List.set_cons_succ]
          refine take_atH 16 87 hS rfl rfl (by kernel_rfl) (by kernel_rfl) (by kernel_rfl) (fun _ _ _ h => h) rfl (fun wq hq => by go_simp; first | done | with_reducible rfl) ?_
          simp only [Act.put, List.setIfInBounds_toArray, List.set_cons_zero, List.set_cons_succ]
          refine take_atH 17 88 hS rfl rfl (by kernel_rfl) (by kernel_rfl) (by kernel_rfl) (fun _ _ _ h => h) rfl (fun wq hq => by go_simp; first | done | with_reducible rfl) ?_
          simp only [Act.put, List.setIfInBounds_toArray, List.set_cons_zero, List.set_cons_succ]
          refine take_atH 18 89 hS rfl rfl (by kernel_rfl) (by kernel_rfl) (by kernel_rfl) (fun _ _ _ h => h) rfl (fun wq hq => by go_simp; first | done | with_reducible rfl) ?_
          simp only [Act.put, List.setIfInBounds_toArray, List.set_cons_zero, List.set_cons_succ]
          refine lone_atH 19 rfl (by kernel_rfl) rfl (fun K hK => ?_)
          go_simp
          obtain ⟨vd, nd, hbd⟩ := (hS).d; refine (bad_zero hbd).mono ?_; rintro e wN1 ⟨rfl, rfl⟩
          refine hK _ _ hS ?_; clear hK K
          refine take_atH 20 91 hS rfl rfl (by kernel_rfl) (by kernel_rfl) (by kernel_rfl) (fun _ _ _ h => h) rfl (fun wq hq => by go_simp; first | done | with_reducible rfl) ?_
          simp only [Act.put, List.setIfInBounds_toArray, List.set_cons_zero, List.set_cons_succ]
          refine take_atH 21 92 hS rfl rfl (by kernel_rfl) (by kernel_rfl) (by kernel_rfl) (fun _ _ _ h => h) rfl (fun wq hq => by go_simp; first | done | with_reducible rfl) ?_
          simp only [Act.put, List.setIfInBounds_toArray, List.set_cons_zero, List.set_cons_succ]
          refine wpAnyH_done (by kernel_rfl) ?_ _
          go_wp2
          go_roundw
          case rel => exact ⟨k + 1, true, hkl, by go_num, rfl, hd7, hk7⟩
          case measure => simp [intOf]; omega
          | true =>
          have e : (x.extract 1 x.size) = xs := by rw [← hxs]; rfl
          have HFD := hide (feed_any adv ini n1 gd gd ⟨if sm then 1 else 0, [], 0⟩ xs w5 (fun W hW => HO.out W (B5.trans (hW.mono hwg))) (fun W hW => HF.out W (B5.trans (hW.mono hwg))) hd5 (by cases sm; exact ok_fresh _ _; exact ok_begin 0) (by show 0 + xs.size ≤ 50000; omega))
          rw [hFx] at HFD
          go_wp2_with fail
          refine HFD.out.mono ?_
          rintro e w6 ⟨v6, rfl, hA⟩
          have hd6 := hA.d
          have K6 := hA.keep
          have r6 := hA.row
          rw [hFx] at hd6 r6
          dsimp only at hd6 r6
          have hk6 := hk5.trans K6
          have hwl : w.heap.size ≤ w5.heap.size := B5.size
          have e6 : ∀ j, j < 7 → w6.cell? ⟨lb, lo + (k * 7 + j), none⟩ = (frC ⟨d, c, kk, p, s', r, i⟩)[j]? := fun j hj => (K6.below.cell (p := ⟨lb, _, none⟩) (Nat.lt_of_lt_of_le hlb hwg)).trans (hS5.b j hj)
          obtain ⟨g1, c1, rfl, _, l1, e1⟩ := row_some r6 (Nat.zero_lt_one)
          obtain ⟨v8, hb8, _⟩ := hd6.row
          have hS8 : GF adv ini n1 gd g1 lb lo k ⟨d, c, kk, p, s', r, i⟩ w6 := ⟨fun j hj => e1 j hj, e6, _, _, hb8⟩
          clear hA HFD K6 r6 e6 e1 hb8 hd5 hk5 B5 hS5 hFx
          go_upto_region 16 with (fail)
          refine wp_region_held (S := fun W => GF adv ini n1 gd g1 lb lo k ⟨d, c, kk, p, s', r, i⟩ W) (by kernel_rfl) ?_
          change wpAnyH _ _ _ _ _ _ _ _ (World.drew _)
          have hS : GF adv ini n1 gd g1 lb lo k ⟨d, c, kk, p, s', r, i⟩ w6.drew := ⟨hS8.a, hS8.b, hS8.d⟩
          have hd7 := hd6.drewN 1
          replace hd7 : DefAt adv ini n1 gd gd ⟨1, [], 0⟩ w6.drew := hd7
          have hk7 : Keeps gd gd w2 w6.drew := ⟨below_drewN hk6.below 1, hk6.keep⟩
          clear hS8 hd6 hk6
          generalize w6.drew = w7 at *
          refine take_atH 0 71 hS rfl rfl (by kernel_rfl) (by kernel_rfl) (by kernel_rfl) (fun _ _ _ h => h) rfl (fun wq hq => by go_simp; first | done | with_reducible rfl) ?_
          simp only [Act.put, List.setIfInBounds_toArray, List.set_cons_zero, List.set_cons_succ]
          refine take_atH 1 72 hS rfl rfl (by kernel_rfl) (by kernel_rfl) (by kernel_rfl) (fun _ _ _ h => h) rfl (fun wq hq => by go_simp; first | done | with_reducible rfl) ?_
          simp only [Act.put, List.setIfInBounds_toArray, List.set_cons_zero, List.set_cons_succ]
          refine take_atH 2 73 hS rfl rfl (by kernel_rfl) (by kernel_rfl) (by kernel_rfl) (fun _ _ _ h => h) rfl (fun wq hq => by go_simp; first | done | with_reducible rfl) ?_
          simp only [Act.put, List.setIfInBounds_toArray, List.set_cons_zero, List.set_cons_succ]
          refine take_atH 3 74 hS rfl rfl (by kernel_rfl) (by kernel_rfl) (by kernel_rfl) (fun _ _ _ h => h) rfl (fun wq hq => by go_simp; first | done | with_reducible rfl) ?_
          simp only [Act.put, List.setIfInBounds_toArray, List.set_cons_zero, List.set_cons_succ]
          refine take_atH 4 75 hS rfl rfl (by kernel_rfl) (by kernel_rfl) (by kernel_rfl) (fun _ _ _ h => h) rfl (fun wq hq => by go_simp; first | done | with_reducible rfl) ?_
          simp only [Act.put, List.setIfInBounds_toArray, List.set_cons_zero, List.set_cons_succ]
          refine take_atH 5 76 hS rfl rfl (by kernel_rfl) (by kernel_rfl) (by kernel_rfl) (fun _ _ _ h => h) rfl (fun wq hq => by go_simp; first | done | with_reducible rfl) ?_
          simp only [Act.put, List.setIfInBounds_toArray, List.set_cons_zero, List.set_cons_succ]
          refine take_atH 6 77 hS rfl rfl (by kernel_rfl) (by kernel_rfl) (by kernel_rfl) (fun _ _ _ h => h) rfl (fun wq hq => by go_simp; first | done | with_reducible rfl) ?_
          simp only [Act.put, List.setIfInBounds_toArray, List.set_cons_zero, List.set_cons_succ]
          refine take_atH 7 78 hS rfl rfl (by kernel_rfl) (by kernel_rfl) (by kernel_rfl) (fun _ _ _ h => h) rfl (fun wq hq => by go_simp; first | done | with_reducible rfl) ?_
          simp only [Act.put, List.setIfInBounds_toArray, List.set_cons_zero, List.set_cons_succ]
          refine take_atH 8 79 hS rfl rfl (by kernel_rfl) (by kernel_rfl) (by kernel_rfl) (fun _ _ _ h => h) rfl (fun wq hq => by go_simp; first | done | with_reducible rfl) ?_
          simp only [Act.put, List.setIfInBounds_toArray, List.set_cons_zero, List.set_cons_succ]
          refine take_atH 9 80 hS rfl rfl (by kernel_rfl) (by kernel_rfl) (by kernel_rfl) (fun _ _ _ h => h) rfl (fun wq hq => by go_simp; first | done | with_reducible rfl) ?_
          simp only [Act.put, List.setIfInBounds_toArray, List.set_cons_zero, List.set_cons_succ]
          refine take_atH 10 81 hS rfl rfl (by kernel_rfl) (by kernel_rfl) (by kernel_rfl) (fun _ _ _ h => h) rfl (fun wq hq => by obtain ⟨e0, e1, e2, e3, e4, e5, e6, z0, z1, z2, z3, z4, z5, z6⟩ := hq.cells; go_simp; first | done | with_reducible rfl) ?_
          simp only [Act.put, List.setIfInBounds_toArray, List.set_cons_zero, List.set_cons_succ]
          refine take_atH 11 82 hS rfl rfl (by kernel_rfl) (by kernel_rfl) (by kernel_rfl) (fun _ _ _ h => h) rfl (fun wq hq => by go_simp; first | done | with_reducible rfl) ?_
          simp only [Act.put, List.setIfInBounds_toArray, List.set_cons_zero, List.set_cons_succ]
          refine take_atH 12 83 hS rfl rfl (by kernel_rfl) (by kernel_rfl) (by kernel_rfl) (fun _ _ _ h => h) rfl (fun wq hq => by go_simp; first | done | with_reducible rfl) ?_
          simp only [Act.put, List.setIfInBounds_toArray, List.set_cons_zero, List.set_cons_succ]
          refine take_atH 13 84 hS rfl rfl (by kernel_rfl) (by kernel_rfl) (by kernel_rfl) (fun _ _ _ h => h) rfl (fun wq hq => by go_simp; first | done | with_reducible rfl) ?_
          simp only [Act.put, List.setIfInBounds_toArray, List.set_cons_zero, List.set_cons_succ]
          refine take_atH 14 85 hS rfl rfl (by kernel_rfl) (by kernel_rfl) (by kernel_rfl) (fun _ _ _ h => h) rfl (fun wq hq => by obtain ⟨e0, e1, e2, e3, e4, e5, e6, z0, z1, z2, z3, z4, z5, z6⟩ := hq.cells; go_simp; first | done | with_reducible rfl) ?_
          simp only [Act.put, List.setIfInBounds_toArray, List.set_cons_zero, List.set_cons_succ]
          refine take_atH 15 86 hS rfl rfl (by kernel_rfl) (by kernel_rfl) (by kernel_rfl) (fun _ _ _ h => h) rfl (fun wq hq => by go_simp; first | done | with_reducible rfl) ?_
          simp only [Act.put, List.setIfInBounds_toArray, List.set_cons_zero, List.set_cons_succ]
          refine take_atH 16 87 hS rfl rfl (by kernel_rfl) (by kernel_rfl) (by kernel_rfl) (fun _ _ _ h => h) rfl (fun wq hq => by go_simp; first | done | with_reducible rfl) ?_
          simp only [Act.put, List.setIfInBounds_toArray, List.set_cons_zero, List.set_cons_succ]
          refine take_atH 17 88 hS rfl rfl (by kernel_rfl) (by kernel_rfl) (by kernel_rfl) (fun _ _ _ h => h) rfl (fun wq hq => by go_simp; first | done | with_reducible rfl) ?_
          simp only [Act.put, List.setIfInBounds_toArray, List.set_cons_zero, List.set_cons_succ]
          refine take_atH 18 89 hS rfl rfl (by kernel_rfl) (by kernel_rfl) (by kernel_rfl) (fun _ _ _ h => h) rfl (fun wq hq => by go_simp; first | done | with_reducible rfl) ?_
          simp only [Act.put, List.setIfInBounds_toArray, List.set_cons_zero, List.set_cons_succ]
          refine lone_atH 19 rfl (by kernel_rfl) rfl (fun K hK => ?_)
          go_simp
          obtain ⟨vd, nd, hbd⟩ := (hS).d; refine (bad_zero hbd).mono ?_; rintro e wN1 ⟨rfl, rfl⟩
          refine hK _ _ hS ?_; clear hK K
          refine take_atH 20 91 hS rfl rfl (by kernel_rfl) (by kernel_rfl) (by kernel_rfl) (fun _ _ _ h => h) rfl (fun wq hq => by go_simp; first | done | with_reducible rfl) ?_
          simp only [Act.put, List.setIfInBounds_toArray, List.set_cons_zero, List.set_cons_succ]
          refine take_atH 21 92 hS rfl rfl (by kernel_rfl) (by kernel_rfl) (by kernel_rfl) (fun _ _ _ h => h) rfl (fun wq hq => by go_simp; first | done | with_reducible rfl) ?_
          simp only [Act.put, List.setIfInBounds_toArray, List.set_cons_zero, List.set_cons_succ]
          refine wpAnyH_done (by kernel_rfl) ?_ _
          go_wp2
          go_roundw
          case rel => exact ⟨k + 1, true, hkl, by go_num, rfl, hd7, hk7⟩
          case measure => simp [intOf]; omega
    · go_wp2_with fail
      refine (works_any _ (HO.out _ Bw) (HF.out _ Bw)).mono ?_
      rintro e w3 ⟨rfl, b3⟩
      have B3 := below_step Bw (Nat.le_refl _) b3
      go_wp2
      go_ret
      exact ⟨rfl, B3⟩
end Go.Proofs.YtnnimkailajgaaaDoor
