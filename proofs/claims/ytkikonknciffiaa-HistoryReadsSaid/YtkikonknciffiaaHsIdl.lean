/- ideal: the walk. -/
import Derived.Test.YtkikonknciffiaaHsFit
import Derived.Test.YtkikonknciffiaaHsKnA
namespace Go.Proofs.Ytkikonknciffiaa
open Go.RowKit
set_option linter.unusedVariables false
set_option linter.unusedSimpArgs false

/-- Where ideal's round stands: the act's block and the entry's. -/
structure IdAt (g : Nat) (st : Int) (sd kd dl : Nat) (en : Bool) (id nn : Int) (dt : ByteArray) (er : Int) (xw xs xk xd : Nat) (xn : Int) (xt : ByteArray) (w0 W : World) : Prop where
  x : AcBlk W g xw xs xk xd xn xt
  e : EnBlk W (g + 1) st sd kd dl en id nn dt er
  below : Below g w0 W
  lt : g + 1 < W.heap.size
section
variable {g : Nat} {w0 W : World} {st : Int} {sd kd dl : Nat} {en : Bool} {id nn : Int} {dt : ByteArray} {er : Int} {xw xs xk xd : Nat} {xn : Int} {xt : ByteArray}
theorem idAt_new (w : World) (st : Int) (sd kd dl : Nat) (en : Bool) (id nn : Int) (dt : ByteArray) (er : Int) (xw xs xk xd : Nat) (xn : Int) (xt : ByteArray) : IdAt w.heap.size st sd kd dl en id nn dt er xw xs xk xd xn xt w ((w.alloc (oAc xw xs xk xd xn xt)).alloc (oEn st sd kd dl en id nn dt er)) := by
  have b1 := (Below.refl w.heap.size w).alloc (Nat.le_refl _) (oAc xw xs xk xd xn xt)
  have h1 := World.alloc_heap_new w (oAc xw xs xk xd xn xt)
  have h2 := World.alloc_heap_new (w.alloc (oAc xw xs xk xd xn xt)) (oEn st sd kd dl en id nn dt er)
  rw [World.size_alloc] at h2
  exact ⟨(Below.heap_alloc _ _ _ (by simp)).trans h1, h2, b1.alloc (by simp) _, by simp⟩
theorem IdAt.step {W' : World} (h : IdAt g st sd kd dl en id nn dt er xw xs xk xd xn xt w0 W) (hg : g = w0.heap.size) (b : Below W.heap.size W W') : IdAt g st sd kd dl en id nn dt er xw xs xk xd xn xt w0 W' :=
  ⟨(b.block _ (Nat.lt_trans (Nat.lt_succ_self _) h.lt)).trans h.x, (b.block _ h.lt).trans h.e, by subst hg; exact below_step h.below (Nat.le_refl _) b, Nat.lt_of_lt_of_le h.lt b.size⟩
theorem IdAt.set (h : IdAt g st sd kd dl en id nn dt er xw xs xk xd xn xt w0 W) (q : Nat) (v : Value) {st' : Int} {sd' kd' dl' : Nat} {en' : Bool} {id' nn' : Int} {dt' : ByteArray} {er' : Int}
    (hs : (#[.int .i64 st, .int .u8 (sd : Int), .int .u8 (kd : Int), .int .u8 (dl : Int), .bool en, .int .i64 id, .int .i64 nn, .string dt, .int .i64 er] : Array Value).setIfInBounds q v = #[.int .i64 st', .int .u8 (sd' : Int), .int .u8 (kd' : Int), .int .u8 (dl' : Int), .bool en', .int .i64 id', .int .i64 nn', .string dt', .int .i64 er']) :
    IdAt g st' sd' kd' dl' en' id' nn' dt' er' xw xs xk xd xn xt w0 (W.setCell ⟨g + 1, q, none⟩ v) := by
  have h1 := blk_set h.e q v
  rw [hs] at h1
  exact ⟨(Below.heap_setCell _ _ _ _ (by simp)).trans h.x, h1, h.below.setCell (p := ⟨g + 1, q, none⟩) (Nat.le_succ g) v, by have := h.lt; simp; omega⟩
theorem IdAt.setAll (h : IdAt g st sd kd dl en id nn dt er xw xs xk xd xn xt w0 W) (st' : Int) (sd' kd' dl' : Nat) (en' : Bool) (id' nn' : Int) (dt' : ByteArray) (er' : Int) : IdAt g st' sd' kd' dl' en' id' nn' dt' er' xw xs xk xd xn xt w0 (setEn W (g + 1) st' sd' kd' dl' en' id' nn' dt' er') := by
  have s : ∀ (V : World) (q : Nat) (v : Value), (V.setCell ⟨g + 1, q, none⟩ v).heap[g]? = V.heap[g]? := fun V q v => Below.heap_setCell V ⟨g + 1, q, none⟩ v g (by simp)
  refine ⟨?_, en_set h.e _ _ _ _ _ _ _ _ _, ?_, by have := h.lt; unfold setEn; simp only [World.size_setCell]; exact this⟩
  · unfold AcBlk setEn
    rw [s, s, s, s, s, s, s, s, s]
    exact h.x
  · have hB : g ≤ g + 1 := by omega
    exact ((((((((h.below.setCell (p := ⟨g + 1, _, none⟩) hB _).setCell (p := ⟨g + 1, _, none⟩) hB _).setCell (p := ⟨g + 1, _, none⟩) hB _).setCell (p := ⟨g + 1, _, none⟩) hB _).setCell (p := ⟨g + 1, _, none⟩) hB _).setCell (p := ⟨g + 1, _, none⟩) hB _).setCell (p := ⟨g + 1, _, none⟩) hB _).setCell (p := ⟨g + 1, _, none⟩) hB _).setCell (p := ⟨g + 1, _, none⟩) hB _
end
theorem right_congr {z z' : Nat → En} {n : Nat} {e : En} (hW : Wf z n) (h : ∀ i, i < n → z i = z' i) : rightR z n e = rightR z' n e := by
  have hS : Sub (fun _ => true) z n z' n := by
    refine ⟨fun s d k _ => ?_, fun s d _ => openedP_congr s d n h, fun s d _ => overP_congr s d n h, fun s d _ => takenP_congr s d n h, fun s d _ => wrP_congr s d n hW h, fun h0 => ⟨h0, by rw [h (n - 1) (by omega)]; exact Int.le_refl _⟩⟩
    rw [← waitsP_congr s d k n h]
    rcases waitsP_spec z s d k n with x | ⟨i, hi, x, _⟩
    · exact .inl ⟨x, x⟩
    · rw [x]
      exact .inr ⟨by omega, by omega, by rw [Int.toNat_natCast]; exact h i hi⟩
  unfold rightR
  rw [hS.begins e rfl, hS.ends e rfl]
  by_cases h0 : 0 < n
  · rw [h (n - 1) (by omega)]
  · simp only [h0, false_and]
theorem Idl.put {z : Nat → En} {n : Nat} {e : En} (h : Idl z n) (hr : rightR z n e = true) (he : EnI e) (hw : e.ends = true → e.kind = 3 → 0 ≤ begP z e.side e.dlci 3 n → e.n = ((z (begP z e.side e.dlci 3 n).toNat).data.size : Int)) (hW : Wf z n) : Idl (putZ z n e) (n + 1) := by
  have hlt := putZ_lt z n e
  have hat := putZ_at z n e
  refine ⟨fun i hi => ?_, fun i hi => ?_, fun i hi => ?_⟩
  · by_cases hin : i = n
    · subst hin; rw [hat, ← right_congr hW hlt]; exact hr
    · have hi' : i < n := by omega
      rw [← hlt i hi', ← right_congr (hW.mono (by omega)) (fun j hj => hlt j (by omega))]; exact h.right i hi'
  · by_cases hin : i = n
    · subst hin; rw [hat]; exact he
    · rw [← hlt i (by omega)]; exact h.en i (by omega)
  · by_cases hin : i = n
    · subst hin
      rw [hat, ← begP_congr _ _ _ _ hlt]
      intro h1 h2 h3
      rw [hw h1 h2 h3, hlt _ (by have := begP_lt z e.side e.dlci 3 i; omega)]
    · rw [← hlt i (by omega), ← begP_congr _ _ _ _ (fun j hj => hlt j (by omega))]
      intro h1 h2 h3
      rw [h.whole i (by omega) h1 h2 h3, hlt _ (by have := begP_lt z (z i).side (z i).dlci 3 i; omega)]
set_option maxRecDepth 100000 in
set_option maxHeartbeats 8000000 in
theorem ideal_any (a : Option Addr) (n ca : Nat) (z : Nat → Ac) (w : World) (hE : HoldsA w a n z) (hn : n ≤ 60) (hz : ∀ i, i < n → (z i).what ≤ 255 ∧ (z i).side ≤ 255 ∧ (z i).kind ≤ 255 ∧ (z i).dlci ≤ 255 ∧ -9223372036854775808 ≤ (z i).n ∧ (z i).n ≤ 9223372036854775807 ∧ (z i).data.size ≤ 30) :
    Calls Try.prog 17 #[.slice a n ca] w fun e w' => ∃ v m zt, e = .returned v ∧ OwnR w' w.heap.size 38 v m zt ∧ m ≤ 60 ∧ Idl zt m ∧ Below w.heap.size w w' := by
  obtain ⟨i0, hi0, hz0, hz1, hz2⟩ := info_parts wrldrow
  have HE := hide hE
  have HZ := hide hz
  clear hE hz
  go_enter Try.func17, Try.ntmps17
  go_wp2
  go_loopw [3, 4, 5, 6] (fun v i _ _ wr => ∃ (k m : Nat) (zt : Nat → En), k ≤ n ∧ m ≤ k ∧ i = .int .i64 (k : Int) ∧ OwnR wr w.heap.size 38 v m zt ∧ Wg zt m ∧ Wf zt m ∧ Idl zt m ∧ Below w.heap.size w wr) (fun _ i _ _ _ => n - (intOf i).toNat)
  case atStart => exact ⟨0, 0, fun _ => zE, by omega, by omega, rfl, World.ownsRow_nil _ _ _ _, ⟨zJ, rel_zero _⟩, ⟨fun i hi => by omega, fun i hi => by omega⟩, ⟨fun i hi => by omega, fun i hi => by omega, fun i hi => by omega⟩, Below.refl _ _⟩
  case round =>
    obtain ⟨k, m, zt, hkn, hmk, rfl, hrow, hG, hW, hI, bw⟩ := hrel
    by_cases hkl : k < n
    · have hkl' : (k : Int) < (n : Int) := by omega
      obtain ⟨lb, lo, rfl, hlb, hlc⟩ := HE.out (by omega)
      have hl3 := fun j hj => (bw.cell (p := ⟨lb, _, none⟩) hlb).trans (hlc k hkl j hj)
      have hzk := HZ.out k hkl
      obtain ⟨e, hze⟩ : ∃ e, z k = e := ⟨_, rfl⟩
      rw [hze] at hl3 hzk
      clear hlc hze
      obtain ⟨xw, xs, xk, xd, xn, xt⟩ := e
      obtain ⟨x0, x1, x2, x3, x4, x5⟩ := ac_at hl3
      dsimp only at hzk
      obtain ⟨q0, q1, q2, q3, q4, q5, q6⟩ := hzk
      clear hl3
      go_upto_region 7 with (fail)
      obtain ⟨S, hS, hS1⟩ : ∃ S : Nat, (xs : Int) % 2 = (S : Int) ∧ S ≤ 1 := ⟨xs % 2, by omega, by omega⟩
      obtain ⟨K, hK, hK1, hK5⟩ : ∃ K : Nat, 1 + (xk : Int) % 5 = (K : Int) ∧ 1 ≤ K ∧ K ≤ 5 := ⟨1 + xk % 5, by omega, by omega, by omega⟩
      obtain ⟨D, hD, hD1, hD3⟩ : ∃ D : Nat, 1 + (xd : Int) % 3 = (D : Int) ∧ 1 ≤ D ∧ D ≤ 3 := ⟨1 + xd % 3, by omega, by omega, by omega⟩
      rw [hS, hK, hD]
      have I0 := idAt_new wr (k : Int) S K D false (k : Int) 0 ⟨#[]⟩ 0 xw xs xk xd xn xt
      unfold oAc oEn at I0
      generalize (wr.alloc (.cells #[.int .u8 (xw : Int), .int .u8 (xs : Int), .int .u8 (xk : Int), .int .u8 (xd : Int), .int .i64 xn, .string xt] 52)).alloc (.cells #[.int .i64 (k : Int), .int .u8 (S : Int), .int .u8 (K : Int), .int .u8 (D : Int), .bool false, .int .i64 (k : Int), .int .i64 0, .string ⟨#[]⟩, .int .i64 0] 38) = w2 at *
      clear x0 x1 x2 x3 x4 x5
      generalize hgg : wr.heap.size = g at *
      obtain ⟨r, hr, hr8⟩ : ∃ r : Nat, (xw : Int) % 8 = (r : Int) ∧ r < 8 := ⟨xw % 8, by omega, by omega⟩
      go_cut [33] (fun s33 wx => s33 = .int .u8 (r : Int) ∧ w2 = wx)
      case first =>
        obtain ⟨x0, x1, x2, x3, x4, x5⟩ := ac_cells I0.x
        go_wp2
        go_meet
        exact ⟨by rw [hr], rfl⟩
      case rest =>
      obtain ⟨rfl, rfl⟩ := hcut
      rename_i hnext
      refine hnext _ _ ?_
      clear hnext
      go_cut [34, 35, 36, 37, 38, 39, 40, 41, 42, 43, 44, 45, 46, 47, 48] (fun _ _ _ _ _ _ _ _ _ _ _ _ _ _ _ wx => ∃ (K' : Nat) (en : Bool) (nn : Int) (dt : ByteArray) (er : Int), IdAt g (k : Int) S K' D en (k : Int) nn dt er xw xs xk xd xn xt wr wx ∧ 1 ≤ K' ∧ K' ≤ 5 ∧ (en = false → er = 0) ∧ (-9223372036854775808 ≤ nn ∧ nn ≤ 9223372036854775807) ∧ dt.size ≤ 30)
      case first =>
        obtain ⟨x0, x1, x2, x3, x4, x5⟩ := ac_cells I0.x
        obtain ⟨c0, c1, c2, c3, c4, c5, c6, c7, c8, _⟩ := en_cells I0.e
        have z2 := en_frz I0.e 2
        have z4 := en_frz I0.e 4
        have z6 := en_frz I0.e 6
        have z7 := en_frz I0.e 7
        have z8 := en_frz I0.e 8
        have hrr : r = 0 ∨ r = 1 ∨ r = 2 ∨ r = 3 ∨ r = 4 ∨ r = 5 ∨ r = 6 ∨ r = 7 := by omega
        clear hr8 hrow hG hW hI bw
        rcases hrr with rfl | rfl | rfl | rfl | rfl | rfl | rfl | rfl
        · go_wp2
          go_meet
          exact ⟨K, false, xn, xt, 0, (I0.set 6 (.int .i64 xn) (nn' := xn) rfl).set 7 (.string xt) (dt' := xt) rfl, hK1, hK5, fun _ => rfl, ⟨q4, q5⟩, q6⟩
        · go_wp2
          go_meet
          exact ⟨K, true, 0, ⟨#[]⟩, 0, I0.set 4 (.bool true) (en' := true) rfl, hK1, hK5, (fun x => by cases x), ⟨by decide, by decide⟩, by decide⟩
        · go_wp2
          go_meet
          exact ⟨K, true, 0, ⟨#[]⟩, 0, I0.set 4 (.bool true) (en' := true) rfl, hK1, hK5, (fun x => by cases x), ⟨by decide, by decide⟩, by decide⟩
        · go_wp2
          go_meet
          exact ⟨K, true, 0, ⟨#[]⟩, 260, (I0.set 4 (.bool true) (en' := true) rfl).set 8 (.int .i64 260) (er' := 260) rfl, hK1, hK5, (fun x => by cases x), ⟨by decide, by decide⟩, by decide⟩
        · go_wp2
          go_meet
          exact ⟨K, true, 0, ⟨#[]⟩, 261, ((I0.set 4 (.bool true) (en' := true) rfl).set 8 (.int .i64 260) (er' := 260) rfl).set 8 (.int .i64 261) (er' := 261) rfl, hK1, hK5, (fun x => by cases x), ⟨by decide, by decide⟩, by decide⟩
        · go_wp2
          go_meet
          exact ⟨4, true, 0, ⟨#[]⟩, 0, (I0.set 4 (.bool true) (en' := true) rfl).set 2 (.int .u8 4) (kd' := 4) rfl, by decide, by decide, (fun x => by cases x), ⟨by decide, by decide⟩, by decide⟩
        · go_wp2
          go_meet
          exact ⟨4, true, 0, ⟨#[]⟩, 0, (I0.set 4 (.bool true) (en' := true) rfl).set 2 (.int .u8 4) (kd' := 4) rfl, by decide, by decide, (fun x => by cases x), ⟨by decide, by decide⟩, by decide⟩
        · go_wp2
          go_meet
          exact ⟨4, true, 0, ⟨#[]⟩, 0, (I0.set 4 (.bool true) (en' := true) rfl).set 2 (.int .u8 4) (kd' := 4) rfl, by decide, by decide, (fun x => by cases x), ⟨by decide, by decide⟩, by decide⟩
      case rest =>
      obtain ⟨K', en, nn, dt, er, I1, k1, k5, hbeg, hnn, hdt⟩ := hcut
      clear I0 hK1 hK5 hK
      generalize wc = wx at *
      go_upto_region 20 with (fail)
      go_cut [59] (fun s59 wy => s59 = .bool en ∧ wx = wy)
      case first =>
        obtain ⟨c0, c1, c2, c3, c4, c5, c6, c7, c8, _⟩ := en_cells I1.e
        go_wp2
        go_meet
        exact ⟨rfl, rfl⟩
      case rest =>
      obtain ⟨rfl, rfl⟩ := hcut
      rename_i hnext
      refine hnext _ _ ?_
      clear hnext
      have bwg : Below w.heap.size wr wx := I1.below.mono (by rw [← hgg]; exact bw.size)
      have hrow1 := OwnR.below hrow (hgg ▸ I1.below)
      go_cut [60, 61, 62, 63] (fun _ _ _ _ wy => ∃ (id nn : Int) (dt : ByteArray), IdAt g (k : Int) S K' D en id nn dt er xw xs xk xd xn xt wr wy ∧ (-9223372036854775808 ≤ nn ∧ nn ≤ 9223372036854775807) ∧ dt.size ≤ 60 ∧ (en = true → K' = 3 → 0 ≤ begP zt S D 3 m → nn = ((zt (begP zt S D 3 m).toNat).data.size : Int)))
      case first =>
        cases en with
        | false =>
          go_wp2
          go_meet
          exact ⟨(k : Int), nn, dt, I1, hnn, by omega, (fun x => by cases x)⟩
        | true =>
          obtain ⟨a1, ca1, rfl, hca1, hE4⟩ := OwnR.holds hrow1
          obtain ⟨c0, c1, c2, c3, c4, c5, c6, c7, c8, _⟩ := en_cells I1.e
          obtain ⟨x0, x1, x2, x3, x4, x5⟩ := ac_cells I1.x
          have HC := hide (fit_any a1 m ca1 zt (k : Int) S K' D true (k : Int) nn dt er xw xs xk xd xn xt wx hE4 (by omega) (fun i hi => (hI.en i hi).ok.small) hnn (by omega) ⟨q4, q5⟩ (by omega))
          clear hE4 hrow hrow1 hG hW hI bw bwg hbeg
          go_wp2_with fail
          refine HC.out.mono ?_
          rintro e w4 ⟨id', nn', dt', rfl, g1, g2, g3, b4⟩
          have I2 := I1.step hgg.symm b4
          clear HC I1 b4 c0 c1 c2 c3 c4 c5 c6 c7 c8 x0 x1 x2 x3 x4 x5
          obtain ⟨c0, c1, c2, c3, c4, c5, c6, c7, c8, _⟩ := en_cells I2.e
          have z0 := en_frz I2.e 0
          have z1 := en_frz I2.e 1
          have z2 := en_frz I2.e 2
          have z3 := en_frz I2.e 3
          have z4 := en_frz I2.e 4
          have z5 := en_frz I2.e 5
          have z6 := en_frz I2.e 6
          have z7 := en_frz I2.e 7
          have z8 := en_frz I2.e 8
          go_wp2
          go_meet
          exact ⟨id', nn', dt', I2.setAll _ _ _ _ _ _ _ _ _, g1, g2, fun _ => g3⟩
      case rest =>
      obtain ⟨id2, nn2, dt2, I2, hnn2, hdt2, hwh⟩ := hcut
      clear I1 hnn hdt hrow1 bwg
      generalize wc = wy at *
      go_upto_region 22 with (fail)
      obtain ⟨e2, he2⟩ : ∃ e2 : En, e2 = ⟨(k : Int), S, K', D, en, id2, nn2, dt2, er⟩ := ⟨_, rfl⟩
      have HE2 := hide he2
      have HEN := hide (fun (W : World) (hb : Below wy.heap.size wy W) => en_cells (I2.step hgg.symm hb).e)
      have hrow2 := OwnR.below hrow (hgg ▸ I2.below)
      have bwg : Below w.heap.size w wy := bw.trans (I2.below.mono (by rw [← hgg]; exact bw.size))
      go_cut [71] (fun s71 wz => s71 = .bool (rightR zt m e2) ∧ Below wy.heap.size wy wz)
      case first =>
        obtain ⟨a1, ca1, rfl, hca1, hE4⟩ := OwnR.holds hrow2
        clear hrow hrow2 bw bwg I2 hG hI hbeg
        refine wp_region_held (S := fun W => Below wy.heap.size wy W) (by kernel_rfl) ?_
        change wpAnyH _ _ _ _ _ _ _ _ (World.drew _)
        have hS : Below wy.heap.size wy wy.drew := below_drewN (Below.refl _ _) 1
        generalize wy.drew = w5 at *
        refine take_atH 0 64 hS rfl rfl (by kernel_rfl) (by kernel_rfl) (by kernel_rfl) (fun _ _ _ h => h) rfl (fun wq hq => by go_simp; first | done | with_reducible rfl) ?_
        simp only [Act.put, List.setIfInBounds_toArray, List.set_cons_zero, List.set_cons_succ]
        refine take_atH 2 66 hS rfl rfl (by kernel_rfl) (by kernel_rfl) (by kernel_rfl) (fun _ _ _ h => h) rfl (fun wq hq => by obtain ⟨c0, c1, c2, c3, c4, c5, c6, c7, c8, _⟩ := HEN.out wq hq; go_simp; first | done | with_reducible rfl) ?_
        simp only [Act.put, List.setIfInBounds_toArray, List.set_cons_zero, List.set_cons_succ]
        refine two_atH 1 3 rfl rfl (by kernel_rfl) rfl rfl (fun K hK => ?_) (fun K hK => ?_)
        · go_simp
          refine (ref_any a1 m ca1 zt _ (hE4.below hS) (by omega)).mono ?_
          rintro e wa ⟨v1, rfl, hv1, ba⟩
          refine (fun ha => hK _ _ ha ?_) (below_step hS (Nat.le_refl _) ba); clear hK K
          refine lone_atH 3 rfl (by kernel_rfl) rfl (fun K hK => ?_)
          go_simp
          have hEs := holds_new wa 38 (enA ⟨(k : Int), S, K', D, en, id2, nn2, dt2, er⟩).toList 1 (fun _ => ⟨(k : Int), S, K', D, en, id2, nn2, dt2, er⟩) rfl
          refine (fun hb => hK _ _ hb ?_) (ha.alloc ha.size _); clear hK K
          refine lone_atH 4 rfl (by kernel_rfl) rfl (fun K hK => ?_)
          go_simp
          refine (ref_any _ 1 1 (fun _ => ⟨(k : Int), S, K', D, en, id2, nn2, dt2, er⟩) _ hEs (by decide)).mono ?_
          rintro e wd ⟨v2, rfl, hv2, bd⟩
          refine (fun hd => hK _ _ hd ?_) (below_step hb (Nat.le_refl _) bd); clear hK K
          have hv1' := OwnR.below (OwnR.below hv1 ((Below.refl _ _).alloc (Nat.le_refl _) _)) bd
          obtain ⟨a3, ca3, rfl, hca3, hE3⟩ := OwnR.holds hv1'
          obtain ⟨g2, cap2, cur2, rfl, _⟩ := OwnR.block hv2 (by decide)
          obtain ⟨_, _, hx2, _, hE2⟩ := OwnR.holds hv2
          rw [(slice_inj hx2).1] at hE2
          clear hx2
          obtain ⟨f0, f1, f2, f3, f4, f5, f6, f7, f8⟩ := en_at0 hE2 (k := 0) (by decide) rfl
          refine take_atH 5 69 hd rfl rfl (by kernel_rfl) (by kernel_rfl) (by kernel_rfl) (fun _ _ _ h => h) rfl (fun wq hq => by go_simp; first | done | with_reducible rfl) ?_
          simp only [Act.put, List.setIfInBounds_toArray, List.set_cons_zero, List.set_cons_succ]
          refine lone_atH 6 rfl (by kernel_rfl) rfl (fun K hK => ?_)
          go_simp
          refine hK _ _ hd ?_; clear hK K
          refine lone_atH 7 rfl (by kernel_rfl) rfl (fun K hK => ?_)
          go_simp
          refine (right_any a3 m ca3 zt (k : Int) S K' D en id2 nn2 dt2 er _ hE3 (by omega) hW hca3 (by omega)).mono ?_
          rintro e we ⟨rfl, be⟩
          refine (fun he => hK _ _ he ?_) (below_step hd (Nat.le_refl _) be); clear hK K
          refine wpAnyH_done (by kernel_rfl) ?_ _
          go_wp2
          go_meet
          exact ⟨by rw [HE2.out], he⟩
        · go_simp
          have hEs := holds_new w5 38 (enA ⟨(k : Int), S, K', D, en, id2, nn2, dt2, er⟩).toList 1 (fun _ => ⟨(k : Int), S, K', D, en, id2, nn2, dt2, er⟩) rfl
          refine (fun hb => hK _ _ hb ?_) (hS.alloc hS.size _); clear hK K
          refine lone_atH 1 rfl (by kernel_rfl) rfl (fun K hK => ?_)
          go_simp
          refine (ref_any a1 m ca1 zt _ (hE4.below hb) (by omega)).mono ?_
          rintro e wa ⟨v1, rfl, hv1, ba⟩
          refine (fun ha => hK _ _ ha ?_) (below_step hb (Nat.le_refl _) ba); clear hK K
          refine lone_atH 4 rfl (by kernel_rfl) rfl (fun K hK => ?_)
          go_simp
          refine (ref_any _ 1 1 (fun _ => ⟨(k : Int), S, K', D, en, id2, nn2, dt2, er⟩) _ (hEs.below ba) (by decide)).mono ?_
          rintro e wd ⟨v2, rfl, hv2, bd⟩
          refine (fun hd => hK _ _ hd ?_) (below_step ha (Nat.le_refl _) bd); clear hK K
          have hv1' := OwnR.below hv1 bd
          obtain ⟨a3, ca3, rfl, hca3, hE3⟩ := OwnR.holds hv1'
          obtain ⟨g2, cap2, cur2, rfl, _⟩ := OwnR.block hv2 (by decide)
          obtain ⟨_, _, hx2, _, hE2⟩ := OwnR.holds hv2
          rw [(slice_inj hx2).1] at hE2
          clear hx2
          obtain ⟨f0, f1, f2, f3, f4, f5, f6, f7, f8⟩ := en_at0 hE2 (k := 0) (by decide) rfl
          refine take_atH 5 69 hd rfl rfl (by kernel_rfl) (by kernel_rfl) (by kernel_rfl) (fun _ _ _ h => h) rfl (fun wq hq => by go_simp; first | done | with_reducible rfl) ?_
          simp only [Act.put, List.setIfInBounds_toArray, List.set_cons_zero, List.set_cons_succ]
          refine lone_atH 6 rfl (by kernel_rfl) rfl (fun K hK => ?_)
          go_simp
          refine hK _ _ hd ?_; clear hK K
          refine lone_atH 7 rfl (by kernel_rfl) rfl (fun K hK => ?_)
          go_simp
          refine (right_any a3 m ca3 zt (k : Int) S K' D en id2 nn2 dt2 er _ hE3 (by omega) hW hca3 (by omega)).mono ?_
          rintro e we ⟨rfl, be⟩
          refine (fun he => hK _ _ he ?_) (below_step hd (Nat.le_refl _) be); clear hK K
          refine wpAnyH_done (by kernel_rfl) ?_ _
          go_wp2
          go_meet
          exact ⟨by rw [HE2.out], he⟩
      case rest =>
      obtain ⟨rfl, bz⟩ := hcut
      generalize wc = wz at *
      have I3 := I2.step hgg.symm bz
      have bw3 : Below w.heap.size w wz := bwg.trans (bz.mono (bwg.size))
      have hrow3 := OwnR.below hrow2 bz
      clear I2 bz bwg hrow hrow2 bw HEN
      obtain ⟨b, hb⟩ : ∃ b, rightR zt m e2 = b := ⟨_, rfl⟩
      rw [hb]
      cases b with
      | false =>
        go_wp2
        go_roundw
        case rel => exact ⟨k + 1, m, zt, hkl, by omega, by go_num, hrow3, hG, hW, hI, bw3⟩
        case measure => simp [intOf]; omega
      | true =>
        have hok : EnOk e2 := by rw [he2]; exact ⟨by show S ≤ 255; omega, by show K' ≤ 255; omega, by show D ≤ 255; omega, hnn2.1, hnn2.2, hdt2⟩
        have hEI : EnI e2 := by
          refine ⟨hok, ?_, ?_, ?_, ?_, ?_, ?_⟩
          all_goals rw [he2]
          · exact hS1
          · exact k1
          · exact k5
          · exact hD1
          · exact hD3
          · exact hbeg
        have hWh : e2.ends = true → e2.kind = 3 → 0 ≤ begP zt e2.side e2.dlci 3 m → e2.n = ((zt (begP zt e2.side e2.dlci 3 m).toNat).data.size : Int) := by rw [he2]; exact hwh
        obtain ⟨zs, hzs⟩ : ∃ zs, putZ zt m e2 = zs := ⟨_, rfl⟩
        have hG2 : Wg zs m := by obtain ⟨js, hR⟩ := hG; rw [← hzs]; exact ⟨js, hR.congr hW (putZ_lt zt m e2)⟩
        have hW2 := hW.congr (putZ_lt zt m e2)
        have hrow4 := OwnR.congr hrow3 (putZ_lt zt m e2)
        have hI2 := hI.put hb hEI hWh hW
        have hzm := putZ_at zt m e2
        have hb2 : rightR zs m e2 = true := by rw [← hb, ← hzs]; exact (right_congr hW (putZ_lt zt m e2)).symm
        rw [hzs] at hW2 hrow4 hI2 hzm
        have hst := wg_step hG2 hW2 (by rw [hzm]; exact hok) (by omega) (by rw [hzm]; exact hb2)
        have hsu : rowC zs (m + 1) = rowC zs m ++ (enA e2).toList := by rw [← hzm]; rfl
        have h1c := one9 e2
        rw [he2] at hsu h1c
        simp only [enA] at hsu h1c
        have HSU := hide hsu
        have H1 := hide h1c
        obtain ⟨c0, c1, c2, c3, c4, c5, c6, c7, c8, _⟩ := en_cells I3.e
        clear hsu h1c hG hW hrow3 hI hb hb2 hzm hG2 hW2 hok hEI hWh he2 hwh hbeg
        have hBz : w.heap.size ≤ wz.heap.size := bw3.size
        go_upto_region 23 with (fail)
        go_wp2_with (at_builtin; refine wpList_append_own_at _ rfl (.tmp 72) (.tmp 74) 22 rfl w.heap.size 38 i0 zV 9 56 Try.underlying22 hi0 hz0 hz1 hz2 rfl (by decide) _ _ _ rfl (hrow4.alloc _) ⟨wz.heap.size, 0, none⟩ 1 1 [.int .i64 (k : Int), .int .u8 (S : Int), .int .u8 (K' : Int), .int .u8 (D : Int), .bool en, .int .i64 id2, .int .i64 nn2, .string dt2, .int .i64 er] rfl rfl (cells_new _ _ _) H1.out (by unfold maxLen; omega) (by omega) (by simp; omega) ?_; intro v' w6 hown' hgrow _ hat')
        have b6 := own_grown hrow4 bw3.size hgrow
        go_roundw
        case rel => exact ⟨k + 1, m + 1, zs, hkl, by omega, by go_num, by unfold OwnR; rw [HSU.out]; exact hown', hst.1, hst.2, hI2, bw3.trans b6⟩
        case measure => simp [intOf]; omega
    · obtain rfl : k = n := by omega
      go_wp2
      go_ret
      exact ⟨_, _, _, rfl, hrow, by omega, hI, bw⟩
end Go.Proofs.Ytkikonknciffiaa
