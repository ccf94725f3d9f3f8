/- begins: the walk. -/
import Derived.Test.YtkikonknciffiaaHsRec
import Derived.Test.YtkikonknciffiaaClone
import Derived.Deep.CutBlock
namespace Go.Proofs.Ytkikonknciffiaa
open Go.RowKit
set_option linter.unusedVariables false
set_option linter.unusedSimpArgs false

/-- An entry's block. -/
abbrev EnBlk (w : World) (g : Nat) (st : Int) (sd kd dl : Nat) (en : Bool) (id n : Int) (dt : ByteArray) (er : Int) : Prop := w.heap[g]? = some (.cells #[.int .i64 st, .int .u8 (sd : Int), .int .u8 (kd : Int), .int .u8 (dl : Int), .bool en, .int .i64 id, .int .i64 n, .string dt, .int .i64 er] 38 (0, 0))
theorem en_cells {w : World} {g : Nat} {st : Int} {sd kd dl : Nat} {en : Bool} {id n : Int} {dt : ByteArray} {er : Int} (h : EnBlk w g st sd kd dl en id n dt er) :
    w.cell? ⟨g, 0, none⟩ = some (.int .i64 st) ∧ w.cell? ⟨g, 1, none⟩ = some (.int .u8 (sd : Int)) ∧ w.cell? ⟨g, 2, none⟩ = some (.int .u8 (kd : Int)) ∧ w.cell? ⟨g, 3, none⟩ = some (.int .u8 (dl : Int)) ∧ w.cell? ⟨g, 4, none⟩ = some (.bool en) ∧ w.cell? ⟨g, 5, none⟩ = some (.int .i64 id) ∧ w.cell? ⟨g, 6, none⟩ = some (.int .i64 n) ∧ w.cell? ⟨g, 7, none⟩ = some (.string dt) ∧ w.cell? ⟨g, 8, none⟩ = some (.int .i64 er) ∧ w.frozen? ⟨g, 7, none⟩ = false := by
  have hc : ∀ q, w.cell? ⟨g, q, none⟩ = (#[.int .i64 st, .int .u8 (sd : Int), .int .u8 (kd : Int), .int .u8 (dl : Int), .bool en, .int .i64 id, .int .i64 n, .string dt, .int .i64 er] : Array Value)[q]? := fun q => by simp only [World.cell?, h]; rfl
  exact ⟨hc 0, hc 1, hc 2, hc 3, hc 4, hc 5, hc 6, hc 7, hc 8, by simp [World.frozen?, h]⟩

/-- A cell of a block that is no judge's and no record's, exchanged. -/
theorem JAt.ne_of {B gj s d g ge : Nat} {js : JS} {L : List (Nat × Nat × Nat)} {W : World} {cs : Array Value} {t : TypeId} {fr : Nat × Nat} (h : JAt B gj js L W) (hc : W.heap[ge]? = some (.cells cs t fr)) (h1 : t ≠ 50) (h2 : t ≠ 67) (hm : (s, d, g) ∈ L) : g ≠ ge := by
  intro e
  subst e
  have e5 := hc.symm.trans (h.recs.blk _ hm).2
  injection e5 with e5
  injection e5 with _ e5
  exact h2 e5
theorem JAt.setEn {B gj ge : Nat} {js : JS} {L : List (Nat × Nat × Nat)} {W : World} {cs : Array Value} {t : TypeId} {fr : Nat × Nat} (h : JAt B gj js L W) (hc : W.heap[ge]? = some (.cells cs t fr)) (h1 : t ≠ 50) (h2 : t ≠ 67) (q : Nat) (v : Value) : JAt B gj js L (W.setCell ⟨ge, q, none⟩ v) := by
  obtain ⟨gm, h3, h4, h5⟩ := h.row
  have n1 : gj ≠ ge := by intro e; subst e; have e5 := hc.symm.trans h4; injection e5 with e5; injection e5 with _ e5; exact h1 e5
  have n2 : gm ≠ ge := by intro e; subst e; have e5 := hc.symm.trans h5; injection e5 with e5; cases e5
  refine ⟨h.ge, ⟨gm, h3, (Below.heap_setCell _ _ _ _ n1).trans h4, (Below.heap_setCell _ _ _ _ n2).trans h5⟩, ⟨fun x hx => ?_, h.recs.keys, h.recs.apart, h.recs.rest⟩⟩
  obtain ⟨h6, h7⟩ := h.recs.blk x hx
  exact ⟨h6, (Below.heap_setCell _ _ _ _ (h.ne_of hc h1 h2 hx)).trans h7⟩
theorem KJ.setNew {B q : Nat} {w b : World} {v : Value} (h : KJ B w b) (hB : B ≤ w.heap.size) : KJ B w (b.setCell ⟨w.heap.size, q, none⟩ v) :=
  ⟨h.below.setCell (p := ⟨w.heap.size, q, none⟩) hB v, fun j cs t fr h1 h2 h3 => (Below.heap_setCell _ _ _ _ (Nat.ne_of_lt (Array.getElem?_eq_some_iff.1 h1).1)).trans (h.keep j cs t fr h1 h2 h3)⟩
theorem blk_set {w : World} {g : Nat} {cs : Array Value} {T : TypeId} {f : Nat × Nat} (h : w.heap[g]? = some (.cells cs T f)) (q : Nat) (v : Value) : (w.setCell ⟨g, q, none⟩ v).heap[g]? = some (.cells (cs.setIfInBounds q v) T f) := by
  simp [World.setCell, Array.getElem?_modify, h]
/-- A record with an entry laid among those that wait. -/
abbrev putW (w : World) (g k : Nat) (st : Int) (sd kd dl : Nat) (en : Bool) (id n : Int) (dt : ByteArray) (er : Int) : World := (((((((((w.setCell ⟨g, k * 9, none⟩ (.int .i64 st)).setCell ⟨g, k * 9 + 1, none⟩ (.int .u8 (sd : Int))).setCell ⟨g, k * 9 + 2, none⟩ (.int .u8 (kd : Int))).setCell ⟨g, k * 9 + 3, none⟩ (.int .u8 (dl : Int))).setCell ⟨g, k * 9 + 4, none⟩ (.bool en)).setCell ⟨g, k * 9 + 5, none⟩ (.int .i64 id)).setCell ⟨g, k * 9 + 6, none⟩ (.int .i64 n)).setCell ⟨g, k * 9 + 7, none⟩ (.string dt)).setCell ⟨g, k * 9 + 8, none⟩ (.int .i64 er))
theorem putW_ne (w : World) (g k : Nat) (st : Int) (sd kd dl : Nat) (en : Bool) (id n : Int) (dt : ByteArray) (er : Int) (j : Nat) (h : j ≠ g) : (putW w g k st sd kd dl en id n dt er).heap[j]? = w.heap[j]? := by
  have s : ∀ (W : World) (q : Nat) (v : Value), (W.setCell ⟨g, q, none⟩ v).heap[j]? = W.heap[j]? := fun W q v => Below.heap_setCell W ⟨g, q, none⟩ v j h
  unfold putW
  rw [s, s, s, s, s, s, s, s, s]
set_option maxRecDepth 100000 in
theorem wait_set (r : Rc) (k : Nat) (st : Int) (sd kd dl : Nat) (en : Bool) (id n : Int) (dt : ByteArray) (er : Int) (hk : k ≤ 5) : ((((((((((rcA r).setIfInBounds (k * 9) (.int .i64 st)).setIfInBounds (k * 9 + 1) (.int .u8 (sd : Int))).setIfInBounds (k * 9 + 2) (.int .u8 (kd : Int))).setIfInBounds (k * 9 + 3) (.int .u8 (dl : Int))).setIfInBounds (k * 9 + 4) (.bool en)).setIfInBounds (k * 9 + 5) (.int .i64 id)).setIfInBounds (k * 9 + 6) (.int .i64 n)).setIfInBounds (k * 9 + 7) (.string dt)).setIfInBounds (k * 9 + 8) (.int .i64 er)) = rcA (r.wait k ⟨st, sd, kd, dl, en, id, n, dt, er⟩) := by
  match k, hk with
  | 0, _ => simp only [Nat.reduceMul, Nat.reduceAdd, List.setIfInBounds_toArray, List.set_cons_zero, List.set_cons_succ]; rfl
  | 1, _ => simp only [Nat.reduceMul, Nat.reduceAdd, List.setIfInBounds_toArray, List.set_cons_zero, List.set_cons_succ]; rfl
  | 2, _ => simp only [Nat.reduceMul, Nat.reduceAdd, List.setIfInBounds_toArray, List.set_cons_zero, List.set_cons_succ]; rfl
  | 3, _ => simp only [Nat.reduceMul, Nat.reduceAdd, List.setIfInBounds_toArray, List.set_cons_zero, List.set_cons_succ]; rfl
  | 4, _ => simp only [Nat.reduceMul, Nat.reduceAdd, List.setIfInBounds_toArray, List.set_cons_zero, List.set_cons_succ]; rfl
  | 5, _ => simp only [Nat.reduceMul, Nat.reduceAdd, List.setIfInBounds_toArray, List.set_cons_zero, List.set_cons_succ]; rfl
theorem putW_blk {w : World} {g k : Nat} {r : Rc} (st : Int) (sd kd dl : Nat) (en : Bool) (id n : Int) (dt : ByteArray) (er : Int) (h : RcBlk w g r) (hk : k ≤ 5) : RcBlk (putW w g k st sd kd dl en id n dt er) g (r.wait k ⟨st, sd, kd, dl, en, id, n, dt, er⟩) := by
  have h9 := blk_set (blk_set (blk_set (blk_set (blk_set (blk_set (blk_set (blk_set (blk_set h (k * 9) (.int .i64 st)) (k * 9 + 1) (.int .u8 (sd : Int))) (k * 9 + 2) (.int .u8 (kd : Int))) (k * 9 + 3) (.int .u8 (dl : Int))) (k * 9 + 4) (.bool en)) (k * 9 + 5) (.int .i64 id)) (k * 9 + 6) (.int .i64 n)) (k * 9 + 7) (.string dt)) (k * 9 + 8) (.int .i64 er)
  unfold RcBlk
  rw [← wait_set r k st sd kd dl en id n dt er hk]
  exact h9
theorem KJ.putW {B g : Nat} {a b : World} {r : Rc} (h : KJ B a b) (hB : B ≤ g) (hg : RcBlk b g r) (k : Nat) (st : Int) (sd kd dl : Nat) (en : Bool) (id n : Int) (dt : ByteArray) (er : Int) : KJ B a (putW b g k st sd kd dl en id n dt er) := by
  refine ⟨((((((((h.below.setCell (p := ⟨g, _, none⟩) hB _).setCell (p := ⟨g, _, none⟩) hB _).setCell (p := ⟨g, _, none⟩) hB _).setCell (p := ⟨g, _, none⟩) hB _).setCell (p := ⟨g, _, none⟩) hB _).setCell (p := ⟨g, _, none⟩) hB _).setCell (p := ⟨g, _, none⟩) hB _).setCell (p := ⟨g, _, none⟩) hB _).setCell (p := ⟨g, _, none⟩) hB _, fun j cs t fr h1 h2 h3 => ?_⟩
  have e4 := h.keep j cs t fr h1 h2 h3
  refine (putW_ne _ _ _ st sd kd dl en id n dt er j ?_).trans e4
  intro e
  subst e
  have e5 := e4.symm.trans hg
  injection e5 with e5
  injection e5 with _ e5
  exact h3 e5
theorem plc_cells {w : World} {g s d : Nat} (h : w.heap[g]? = some (.cells #[.int .u8 (s : Int), .int .u8 (d : Int)] 62 (0, 0))) : w.cell? ⟨g, 0, none⟩ = some (.int .u8 (s : Int)) ∧ w.cell? ⟨g, 1, none⟩ = some (.int .u8 (d : Int)) := by
  refine ⟨?_, ?_⟩ <;> (simp only [World.cell?, h]; rfl)
set_option maxRecDepth 100000 in
set_option maxHeartbeats 4000000 in
theorem begins_any (B gj : Nat) (js : JS) (L : List (Nat × Nat × Nat)) (st : Int) (sd kd dl : Nat) (en : Bool) (id n : Int) (dt : ByteArray) (er : Int) (w : World) (hs : sd ≤ 1) (hdt : dt.size ≤ 281474976710656) (h : JAt B gj js L w) :
    Calls Try.prog 21 #[.pointer (some ⟨gj, 0, none⟩), .agg #[.int .i64 st, .int .u8 (sd : Int), .int .u8 (kd : Int), .int .u8 (dl : Int), .bool en, .int .i64 id, .int .i64 n, .string dt, .int .i64 er]] w fun e w' => ∃ L', e = .returned (.bool (beginsJ js ⟨st, sd, kd, dl, en, id, n, dt, er⟩).2) ∧ JAt B gj (beginsJ js ⟨st, sd, kd, dl, en, id, n, dt, er⟩).1 L' w' ∧ KJ B w w' := by
  have hB : B ≤ w.heap.size := Nat.le_trans h.ge (Nat.le_of_lt h.lt)
  have b1 := (Below.refl w.heap.size w).alloc (Nat.le_refl _) (.cells #[.int .i64 st, .int .u8 (sd : Int), .int .u8 (kd : Int), .int .u8 (dl : Int), .bool en, .int .i64 id, .int .i64 n, .string dt, .int .i64 er] 38)
  have J1 := h.alloc (.cells #[.int .i64 st, .int .u8 (sd : Int), .int .u8 (kd : Int), .int .u8 (dl : Int), .bool en, .int .i64 id, .int .i64 n, .string dt, .int .i64 er] 38)
  have k1 := KJ.ofBelow hB b1
  have E1 : EnBlk (w.alloc (.cells #[.int .i64 st, .int .u8 (sd : Int), .int .u8 (kd : Int), .int .u8 (dl : Int), .bool en, .int .i64 id, .int .i64 n, .string dt, .int .i64 er] 38)) w.heap.size st sd kd dl en id n dt er := World.alloc_heap_new w _
  have hnew : w.heap.size < (w.alloc (.cells #[.int .i64 st, .int .u8 (sd : Int), .int .u8 (kd : Int), .int .u8 (dl : Int), .bool en, .int .i64 id, .int .i64 n, .string dt, .int .i64 er] 38)).heap.size := by rw [World.size_alloc]; omega
  obtain ⟨c0, c1, c2, c3, c4, c5, c6, c7, c8, _⟩ := en_cells E1
  clear b1 h
  obtain ⟨X, hX⟩ : ∃ X, beginsJ js ⟨st, sd, kd, dl, en, id, n, dt, er⟩ = X := ⟨_, rfl⟩
  rw [hX]
  have HX := hide hX
  clear hX
  go_enter Try.func21, Try.ntmps21
  go_upto_region 1 with (fail)
  generalize w.alloc (.cells #[.int .i64 st, .int .u8 (sd : Int), .int .u8 (kd : Int), .int .u8 (dl : Int), .bool en, .int .i64 id, .int .i64 n, .string dt, .int .i64 er] 38) = w1 at *
  go_cut [5] (fun s5 wx => s5 = .bool (known kd) ∧ w1 = wx)
  case first =>
    by_cases h0 : 1 ≤ kd
    · have h0' : (1 : Int) ≤ (kd : Int) := by omega
      by_cases h2 : kd ≤ 5
      · have h2' : (kd : Int) ≤ 5 := by omega
        go_wp2
        go_meet
        exact ⟨by simp [known, h0, h2], rfl⟩
      · have h2' : ¬ (kd : Int) ≤ 5 := by omega
        go_wp2
        go_meet
        exact ⟨by simp [known, h2], rfl⟩
    · have h0' : ¬ (1 : Int) ≤ (kd : Int) := by omega
      go_wp2
      go_meet
      exact ⟨by simp [known, h0], rfl⟩
  case rest =>
  obtain ⟨rfl, rfl⟩ := hcut
  by_cases hid : id = st
  · subst hid
    by_cases h2 : er = 2
    · subst h2
      have hX : X = (js, !known kd) := by rw [← HX.out]; unfold beginsJ; rw [if_neg (by simp), if_pos rfl]
      go_wp2
      go_ret
      rw [hX]
      exact ⟨L, rfl, J1, k1⟩
    have h2' : (er == 2) = false := beq_eq_false_iff_ne.2 h2
    by_cases h3 : er = 263
    · subst h3
      have hX : X = (js, known kd && (!there dl || decide (dl = 62))) := by rw [← HX.out]; unfold beginsJ; rw [if_neg (by simp), if_neg h2, if_pos rfl]
      cases hk : known kd with
      | false =>
        rw [hk] at hX
        go_wp2
        go_ret
        rw [hX]
        exact ⟨L, rfl, J1, k1⟩
      | true =>
        rw [hk] at hX
        go_wp2_with fail
        refine (there_any dl _).mono ?_
        rintro e w2 ⟨rfl, rfl⟩
        cases ht : there dl with
        | false =>
          rw [ht] at hX
          go_wp2
          go_ret
          rw [hX]
          exact ⟨L, rfl, J1, k1⟩
        | true =>
          rw [ht] at hX
          by_cases h62 : dl = 62
          · subst h62
            go_wp2
            go_ret
            rw [hX]
            exact ⟨L, rfl, J1, k1⟩
          · have h62' : ((dl : Int) == 62) = false := beq_eq_false_iff_ne.2 (by omega)
            go_wp2
            go_ret
            rw [hX]
            exact ⟨L, by simp [h62], J1, k1⟩
    have h3' : (er == 263) = false := beq_eq_false_iff_ne.2 h3
    cases hk : known kd with
    | false =>
      have hX : X = (js, false) := by rw [← HX.out]; unfold beginsJ; rw [if_neg (by simp), if_neg h2, if_neg h3, if_pos (.inl hk)]
      go_wp2
      go_ret
      rw [hX]
      exact ⟨L, rfl, J1, k1⟩
    | true =>
    have hkd : 1 ≤ kd ∧ kd ≤ 5 := by simpa [known] using hk
    go_wp2_with fail
    refine (there_any dl _).mono ?_
    rintro e w2 ⟨rfl, rfl⟩
    cases ht : there dl with
    | false =>
      have hX : X = (js, false) := by rw [← HX.out]; unfold beginsJ; rw [if_neg (by simp), if_neg h2, if_neg h3, if_pos (.inr ht)]
      go_wp2
      go_ret
      rw [hX]
      exact ⟨L, rfl, J1, k1⟩
    | true =>
    have hX4 : ¬ (known kd = false ∨ there dl = false) := by rw [hk, ht]; simp
    have hB1 : B ≤ w1.heap.size := by omega
    have b2 := (Below.refl w1.heap.size w1).alloc (Nat.le_refl _) (.cells #[.int .u8 (sd : Int), .int .u8 (dl : Int)] 62)
    have J2 := J1.alloc (.cells #[.int .u8 (sd : Int), .int .u8 (dl : Int)] 62)
    have k2 := k1.trans (KJ.ofBelow hB1 b2)
    have P2 : (w1.alloc (.cells #[.int .u8 (sd : Int), .int .u8 (dl : Int)] 62)).heap[w1.heap.size]? = some (.cells #[.int .u8 (sd : Int), .int .u8 (dl : Int)] 62 (0, 0)) := World.alloc_heap_new w1 _
    have E2 := (b2.block _ hnew).trans E1
    obtain ⟨p0, p1⟩ := plc_cells P2
    obtain ⟨c0, c1, c2, c3, c4, c5, c6, c7, c8, f7⟩ := en_cells E2
    clear b2 J1 k1 E1 hnew
    go_upto_region 12 with (fail)
    generalize w1.alloc (.cells #[.int .u8 (sd : Int), .int .u8 (dl : Int)] 62) = w2 at *
    generalize w1.heap.size = gp at *
    go_wp2_with fail
    refine (record_any B gj js L sd dl w2 J2).mono ?_
    rintro e w3 ⟨g, L3, rfl, J3, hm3, hL3, k3⟩
    have E3 := k3.keep _ _ _ _ E2 (by decide) (by decide)
    have P3 := k3.keep _ _ _ _ P2 (by decide) (by decide)
    replace k3 := k2.trans k3
    obtain ⟨c0, c1, c2, c3, c4, c5, c6, c7, c8, f7⟩ := en_cells E3
    obtain ⟨p0, p1⟩ := plc_cells P3
    obtain ⟨hg, R3⟩ := J3.recs.blk _ hm3
    dsimp only at hg R3
    clear J2 k2 E2 P2
    have HXW := hide (waiting_any g kd _ w3 R3 hkd.2)
    by_cases h4 : er = 262
    · subst h4
      have hX : X = (js, waiting (js.recs sd dl) kd || (decide (kd = 1) && ((js.recs sd dl).opened || (js.recs (1 - sd) dl).opened))) := by rw [← HX.out]; unfold beginsJ; rw [if_neg (by simp), if_neg h2, if_neg h3, if_neg hX4, if_pos rfl]
      go_wp2_with fail
      refine HXW.out.mono ?_
      rintro e w4 ⟨rfl, rfl⟩
      cases hw : waiting (js.recs sd dl) kd with
      | true =>
        rw [hw] at hX
        go_wp2
        go_ret
        rw [hX]
        exact ⟨L3, rfl, J3, k3⟩
      | false =>
        rw [hw] at hX
        by_cases h1 : kd = 1
        · have h1' : ((kd : Int) == 1) = true := by rw [h1]; rfl
          obtain ⟨r0, r1, r2, r3, r4, _⟩ := rc_fields R3
          cases ho : (js.recs sd dl).opened with
          | true =>
            rw [ho] at hX r0
            go_wp2
            go_ret
            rw [hX]
            exact ⟨L3, by simp [h1], J3, k3⟩
          | false =>
            rw [ho] at hX r0
            go_wp2_with fail
            refine (other_any B gj js L3 sd dl w3 hs J3).mono ?_
            rintro e w4 ⟨g4, L4, rfl, J4, hm4, hL4, k4⟩
            obtain ⟨hg4, R4⟩ := J4.recs.blk _ hm4
            dsimp only at hg4 R4
            obtain ⟨r0', r1', r2', r3', r4', _⟩ := rc_fields R4
            go_wp2
            go_ret
            rw [hX]
            exact ⟨L4, by simp [h1], J4, k3.trans k4⟩
        · have h1' : ((kd : Int) == 1) = false := beq_eq_false_iff_ne.2 (by omega)
          go_wp2
          go_ret
          rw [hX]
          exact ⟨L3, by simp [h1], J3, k3⟩
    have h4' : (er == 262) = false := beq_eq_false_iff_ne.2 h4
    by_cases h5 : er = 0
    · subst h5
      go_wp2_with fail
      refine HXW.out.mono ?_
      rintro e w4 ⟨rfl, rfl⟩
      cases hw : waiting (js.recs sd dl) kd with
      | true =>
        have hX : X = (js, false) := by rw [← HX.out]; unfold beginsJ; rw [if_neg (by simp), if_neg h2, if_neg h3, if_neg hX4, if_neg h4, if_pos (.inr hw)]
        go_wp2
        go_ret
        rw [hX]
        exact ⟨L3, rfl, J3, k3⟩
      | false =>
      have hX : X = (js.upd sd dl { (js.recs sd dl).wait kd ⟨id, sd, kd, dl, en, id, n, dt, 0⟩ with opened := (js.recs sd dl).opened || decide (kd = 1), over := (js.recs sd dl).over || decide (kd = 5) }, true) := by rw [← HX.out]; unfold beginsJ; rw [if_neg (by simp), if_neg h2, if_neg h3, if_neg hX4, if_neg h4, if_neg (by rintro (h | h); exact h rfl; rw [hw] at h; cases h)]
      go_wp2_with fail
      refine (clone_any dt w3 hdt).mono ?_
      rintro e w4 ⟨rfl, b4⟩
      have hl3 : w.heap.size < w3.heap.size := (Array.getElem?_eq_some_iff.1 E3).1
      have E4 := (b4.block _ hl3).trans E3
      have J4 := J3.below b4
      have R4 := (b4.block _ (Array.getElem?_eq_some_iff.1 R3).1).trans R3
      have k4 := k3.trans (KJ.ofBelow (by omega) b4)
      have J5 := J4.setEn E4 (by decide) (by decide) 7 (.string dt)
      have k5 := k4.setNew hB (q := 7) (v := .string dt)
      have R5 : RcBlk (w4.setCell ⟨w.heap.size, 7, none⟩ (.string dt)) g (js.recs sd dl) := (Below.heap_setCell _ _ _ _ (J4.ne_of E4 (by decide) (by decide) hm3)).trans R4
      obtain ⟨c0, c1, c2, c3, c4, c5, c6, c7, c8, f7⟩ := en_cells E4
      have E5 : EnBlk (w4.setCell ⟨w.heap.size, 7, none⟩ (.string dt)) w.heap.size id sd kd dl en id n dt 0 := blk_set E4 7 (.string dt)
      clear E3 J3 R3 k3 b4 E4 J4 R4 k4 HXW p0 p1 P3
      go_upto_region 18 with (fail)
      generalize w4.setCell ⟨w.heap.size, 7, none⟩ (.string dt) = w5 at *
      refine wp_region_held (S := fun W => EnBlk W w.heap.size id sd kd dl en id n dt 0) (by kernel_rfl) ?_
      change wpAnyH _ _ _ _ _ _ _ _ (World.drew _)
      have hS : EnBlk w5.drew w.heap.size id sd kd dl en id n dt 0 := E5
      have J6 := J5.drew
      have R6 : RcBlk w5.drew g (js.recs sd dl) := R5
      have k6 : KJ B w w5.drew := ⟨below_drewN k5.below 1, k5.keep⟩
      clear J5 R5 k5 E5
      generalize w5.drew = w6 at *
      have hkd6 : (kd : Int) < 6 := by omega
      refine take_atH 0 98 hS rfl rfl (by kernel_rfl) (by kernel_rfl) (by kernel_rfl) (fun _ _ _ h => h) rfl (fun wq hq => by go_simp; first | done | with_reducible rfl) ?_
      simp only [Act.put, List.setIfInBounds_toArray, List.set_cons_zero, List.set_cons_succ]
      refine take_atH 1 99 hS rfl rfl (by kernel_rfl) (by kernel_rfl) (by kernel_rfl) (fun _ _ _ h => h) rfl (fun wq hq => by go_simp; first | done | with_reducible rfl) ?_
      simp only [Act.put, List.setIfInBounds_toArray, List.set_cons_zero, List.set_cons_succ]
      refine take_atH 2 100 hS rfl rfl (by kernel_rfl) (by kernel_rfl) (by kernel_rfl) (fun _ _ _ h => h) rfl (fun wq hq => by obtain ⟨c0, c1, c2, c3, c4, c5, c6, c7, c8, _⟩ := en_cells hq; go_simp; first | done | with_reducible rfl) ?_
      simp only [Act.put, List.setIfInBounds_toArray, List.set_cons_zero, List.set_cons_succ]
      refine take_atH 3 101 hS rfl rfl (by kernel_rfl) (by kernel_rfl) (by kernel_rfl) (fun _ _ _ h => h) rfl (fun wq hq => by obtain ⟨c0, c1, c2, c3, c4, c5, c6, c7, c8, _⟩ := en_cells hq; go_simp; first | done | with_reducible rfl) ?_
      simp only [Act.put, List.setIfInBounds_toArray, List.set_cons_zero, List.set_cons_succ]
      refine take_atH 4 102 hS rfl rfl (by kernel_rfl) (by kernel_rfl) (by kernel_rfl) (fun _ _ _ h => h) rfl (fun wq hq => by go_simp; first | done | with_reducible rfl) ?_
      simp only [Act.put, List.setIfInBounds_toArray, List.set_cons_zero, List.set_cons_succ]
      refine take_atH 5 103 hS rfl rfl (by kernel_rfl) (by kernel_rfl) (by kernel_rfl) (fun _ _ _ h => h) rfl (fun wq hq => by go_simp; first | done | with_reducible rfl) ?_
      simp only [Act.put, List.setIfInBounds_toArray, List.set_cons_zero, List.set_cons_succ]
      refine take_atH 6 104 hS rfl rfl (by kernel_rfl) (by kernel_rfl) (by kernel_rfl) (fun _ _ _ h => h) rfl (fun wq hq => by go_simp; first | done | with_reducible rfl) ?_
      simp only [Act.put, List.setIfInBounds_toArray, List.set_cons_zero, List.set_cons_succ]
      refine lone_atH 7 rfl (by kernel_rfl) rfl (fun K hK => ?_)
      obtain ⟨_, _, _, _, _, fz⟩ := rc_fields R6
      obtain ⟨x0, x1, x2, x3, x4, x5, x6, x7, x8⟩ := rc_wait R6 kd hkd.2
      go_simp
      have R7 := putW_blk id sd kd dl en id n dt 0 R6 hkd.2
      have k7 := k6.putW hg R6 kd id sd kd dl en id n dt 0
      have o7 := putW_ne w6 g kd id sd kd dl en id n dt 0
      have hne : w.heap.size ≠ g := (J6.ne_of hS (by decide) (by decide) hm3).symm
      have E7 : EnBlk (putW w6 g kd id sd kd dl en id n dt 0) w.heap.size id sd kd dl en id n dt 0 := (o7 _ hne).trans hS
      refine hK _ _ E7 ?_; clear hK K
      refine wpAnyH_done (by kernel_rfl) ?_ _
      clear x0 x1 x2 x3 x4 x5 x6 x7 x8 fz
      change Exit.then _ _ _ _ (putW w6 g kd id sd kd dl en id n dt 0)
      generalize putW w6 g kd id sd kd dl en id n dt 0 = w7 at *
      obtain ⟨c0, c1, c2, c3, c4, c5, c6, c7, c8, f7⟩ := en_cells E7
      obtain ⟨r0, r1, r2, r3, r4, fz⟩ := rc_fields R7
      have h1 : ((kd : Int) == 1) = decide (kd = 1) := by by_cases h : kd = 1 <;> simp [h]; omega
      have h5 : ((kd : Int) == 5) = decide (kd = 5) := by by_cases h : kd = 5 <;> simp [h]; omega
      obtain ⟨bo, hbo⟩ : ∃ bo, ((js.recs sd dl).opened || decide (kd = 1)) = bo := ⟨_, rfl⟩
      obtain ⟨bv, hbv⟩ : ∃ bv, ((js.recs sd dl).over || decide (kd = 5)) = bv := ⟨_, rfl⟩
      have R8 : RcBlk (w7.setCell ⟨g, 54, none⟩ (.bool bo)) g { (js.recs sd dl).wait kd ⟨id, sd, kd, dl, en, id, n, dt, 0⟩ with opened := bo } := blk_set R7 54 (.bool bo)
      have R9 : RcBlk ((w7.setCell ⟨g, 54, none⟩ (.bool bo)).setCell ⟨g, 55, none⟩ (.bool bv)) g { (js.recs sd dl).wait kd ⟨id, sd, kd, dl, en, id, n, dt, 0⟩ with opened := bo, over := bv } := blk_set R8 55 (.bool bv)
      have k9 := (k7.set hg R7 (.bool bo) (q := 54)).set hg R8 (.bool bv) (q := 55)
      have J9 := J6.turn hm3 R9 (fun j hj => (Below.heap_setCell _ ⟨g, 55, none⟩ _ j hj).trans ((Below.heap_setCell _ ⟨g, 54, none⟩ _ j hj).trans (o7 j hj)))
      rw [hbo, hbv] at hX
      have HX2 := hide hX
      clear hX R9 R8 o7 k7 J6 R6 k6 hS
      replace r0 : w7.cell? ⟨g, 54, none⟩ = some (.bool (js.recs sd dl).opened) := r0
      replace r1 : w7.cell? ⟨g, 55, none⟩ = some (.bool (js.recs sd dl).over) := r1
      clear r2 r3 r4 HX h2 h3 h2' h3' h4 h4' hX4 R7
      cases ho : (js.recs sd dl).opened with
      | true =>
        rw [ho] at r0 hbo
        obtain rfl : true = bo := hbo
        cases hv : (js.recs sd dl).over with
        | true =>
          rw [hv] at r1 hbv
          obtain rfl : true = bv := hbv
          clear h1 h5
          go_wp2
          go_ret
          rw [HX2.out]
          exact ⟨rfl, ⟨L3, J9⟩, k9⟩
        | false =>
          rw [hv] at r1 hbv
          replace h5 := h5.trans hbv
          clear h1
          go_wp2
          go_ret
          rw [HX2.out]
          exact ⟨rfl, ⟨L3, J9⟩, k9⟩
      | false =>
        rw [ho] at r0 hbo
        replace h1 := h1.trans hbo
        cases hv : (js.recs sd dl).over with
        | true =>
          rw [hv] at r1 hbv
          obtain rfl : true = bv := hbv
          clear h5
          go_wp2
          go_ret
          rw [HX2.out]
          exact ⟨rfl, ⟨L3, J9⟩, k9⟩
        | false =>
          rw [hv] at r1 hbv
          replace h5 := h5.trans hbv
          go_wp2
          go_ret
          rw [HX2.out]
          exact ⟨rfl, ⟨L3, J9⟩, k9⟩
    · have h5' : (er == 0) = false := beq_eq_false_iff_ne.2 h5
      have hX : X = (js, false) := by rw [← HX.out]; unfold beginsJ; rw [if_neg (by simp), if_neg h2, if_neg h3, if_neg hX4, if_neg h4, if_pos (.inl h5)]
      go_wp2
      go_ret
      rw [hX]
      exact ⟨L3, rfl, J3, k3⟩
  · have hid' : (id == st) = false := beq_eq_false_iff_ne.2 hid
    have hX : X = (js, false) := by rw [← HX.out]; unfold beginsJ; rw [if_pos hid]
    go_wp2
    go_ret
    rw [hX]
    exact ⟨L, rfl, J1, k1⟩
end Go.Proofs.Ytkikonknciffiaa
