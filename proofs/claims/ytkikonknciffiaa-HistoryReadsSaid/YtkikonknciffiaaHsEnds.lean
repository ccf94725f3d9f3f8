/- ends: the walk. -/
import Derived.Test.YtkikonknciffiaaHsTook
import Derived.Laws.EntriesVeiled
namespace Go.Proofs.Ytkikonknciffiaa
open Go.RowKit
set_option linter.unusedVariables false
set_option linter.unusedSimpArgs false

/-- The bounds that a judge's step takes for granted. -/
structure JB (js : JS) (s d : Nat) : Prop where
  wr : ∀ s', (js.recs s' d).wrote.size ≤ 100000
  wt : ∀ s' k, ((js.recs s' d).waits k).data.size ≤ 100000
  rd0 : 0 ≤ (js.recs s d).read
  rd1 : (js.recs s d).read ≤ ((allJ js s d).size : Int)
def howK (k : Nat) : FuncId := if k = 3 then 37 else if k = 4 then 38 else if k = 5 then 39 else 36
theorem how_any (B gj : Nat) (js : JS) (L : List (Nat × Nat × Nat)) (s d : Nat) (sta : Int) (sda kda dla : Nat) (ena : Bool) (ida na : Int) (dta : ByteArray) (era : Int) (st : Int) (sd kd dl : Nat) (en : Bool) (id n : Int) (dt : ByteArray) (er : Int) (w : World) (hs : s ≤ 1) (hb : JB js s d) (ha : dta.size ≤ 100000) (hdt : dt.size ≤ 100000) (h : JAt B gj js L w) :
    Calls Try.prog (howK kd) #[.pointer (some ⟨gj, 0, none⟩), .agg #[.int .u8 (s : Int), .int .u8 (d : Int)], .agg #[.int .i64 sta, .int .u8 (sda : Int), .int .u8 (kda : Int), .int .u8 (dla : Int), .bool ena, .int .i64 ida, .int .i64 na, .string dta, .int .i64 era], .agg #[.int .i64 st, .int .u8 (sd : Int), .int .u8 (kd : Int), .int .u8 (dl : Int), .bool en, .int .i64 id, .int .i64 n, .string dt, .int .i64 er]] w fun e w' => ∃ L', e = .returned (.bool (howJ js s d ⟨sta, sda, kda, dla, ena, ida, na, dta, era⟩ ⟨st, sd, kd, dl, en, id, n, dt, er⟩).2) ∧ JAt B gj (howJ js s d ⟨sta, sda, kda, dla, ena, ida, na, dta, era⟩ ⟨st, sd, kd, dl, en, id, n, dt, er⟩).1 L' w' ∧ KJ B w w' ∧ ∀ x ∈ L, x ∈ L' := by
  unfold howK howJ
  by_cases h3 : kd = 3
  · rw [if_pos h3, if_pos h3]
    exact wrote_any B gj js L s d sta sda kda dla ena ida na dta era st sd kd dl en id n dt er w hs ha (hb.wr s) h
  rw [if_neg h3, if_neg h3]
  by_cases h4 : kd = 4
  · rw [if_pos h4, if_pos h4]
    exact took_any B gj js L s d sta sda kda dla ena ida na dta era st sd kd dl en id n dt er w hs hdt (hb.wr _) (hb.wt _ 3) hb.rd0 hb.rd1 h
  rw [if_neg h4, if_neg h4]
  by_cases h5 : kd = 5
  · rw [if_pos h5, if_pos h5]
    exact closed_any B gj js L s d sta sda kda dla ena ida na dta era st sd kd dl en id n dt er w h
  rw [if_neg h5, if_neg h5]
  exact meets_any B gj js L s d sta sda kda dla ena ida na dta era st sd kd dl en id n dt er w hs h
/-- What ends reads, but for the record. -/
structure HJ (gp gh ga ge : Nat) (sta : Int) (sda kda dla : Nat) (ena : Bool) (ida na : Int) (dta : ByteArray) (era : Int) (st : Int) (sd kd dl : Nat) (en : Bool) (id n : Int) (dt : ByteArray) (er : Int) (W : World) : Prop where
  e : EnBlk W ge st sd kd dl en id n dt er
  a : EnBlk W ga sta sda kda dla ena ida na dta era
  p : W.heap[gp]? = some (.cells #[.int .u8 (sd : Int), .int .u8 (dl : Int)] 62 (0, 0))
  h : W.heap[gh]? = some (.cells #[.nilFunc, .func (.func 36) #[] #[], .func (.func 36) #[] #[], .func (.func 37) #[] #[], .func (.func 38) #[] #[], .func (.func 39) #[] #[]] 71 (0, 0))
theorem HJ.keep {B gp gh ga ge : Nat} {sta : Int} {sda kda dla : Nat} {ena : Bool} {ida na : Int} {dta : ByteArray} {era : Int} {st : Int} {sd kd dl : Nat} {en : Bool} {id n : Int} {dt : ByteArray} {er : Int} {W W' : World} (h : HJ gp gh ga ge sta sda kda dla ena ida na dta era st sd kd dl en id n dt er W) (k : KJ B W W') : HJ gp gh ga ge sta sda kda dla ena ida na dta era st sd kd dl en id n dt er W' :=
  ⟨k.keep _ _ _ _ h.e (by decide) (by decide), k.keep _ _ _ _ h.a (by decide) (by decide), k.keep _ _ _ _ h.p (by decide) (by decide), k.keep _ _ _ _ h.h (by decide) (by decide)⟩
theorem how_cell {W : World} {gh : Nat} (h : W.heap[gh]? = some (.cells #[.nilFunc, .func (.func 36) #[] #[], .func (.func 36) #[] #[], .func (.func 37) #[] #[], .func (.func 38) #[] #[], .func (.func 39) #[] #[]] 71 (0, 0))) (k : Nat) (h1 : 1 ≤ k) (h2 : k ≤ 5) : W.cell? ⟨gh, k, none⟩ = some (.func (.func (howK k)) #[] #[]) := by
  have hc : ∀ q, W.cell? ⟨gh, q, none⟩ = (#[.nilFunc, .func (.func 36) #[] #[], .func (.func 36) #[] #[], .func (.func 37) #[] #[], .func (.func 38) #[] #[], .func (.func 39) #[] #[]] : Array Value)[q]? := fun q => by simp only [World.cell?, h]; rfl
  rw [hc]
  match k, h1, h2 with
  | 1, _, _ => rfl
  | 2, _, _ => rfl
  | 3, _, _ => rfl
  | 4, _, _ => rfl
  | 5, _, _ => rfl
theorem HJ.cells {gp gh ga ge : Nat} {sta : Int} {sda kda dla : Nat} {ena : Bool} {ida na : Int} {dta : ByteArray} {era : Int} {st : Int} {sd kd dl : Nat} {en : Bool} {id n : Int} {dt : ByteArray} {er : Int} {W : World} (h : HJ gp gh ga ge sta sda kda dla ena ida na dta era st sd kd dl en id n dt er W) (h1 : 1 ≤ kd) (h2 : kd ≤ 5) :
    W.cell? ⟨ge, 0, none⟩ = some (.int .i64 st) ∧ W.cell? ⟨ge, 1, none⟩ = some (.int .u8 (sd : Int)) ∧ W.cell? ⟨ge, 2, none⟩ = some (.int .u8 (kd : Int)) ∧ W.cell? ⟨ge, 3, none⟩ = some (.int .u8 (dl : Int)) ∧ W.cell? ⟨ge, 4, none⟩ = some (.bool en) ∧ W.cell? ⟨ge, 5, none⟩ = some (.int .i64 id) ∧ W.cell? ⟨ge, 6, none⟩ = some (.int .i64 n) ∧ W.cell? ⟨ge, 7, none⟩ = some (.string dt) ∧ W.cell? ⟨ge, 8, none⟩ = some (.int .i64 er) ∧ W.cell? ⟨ga, 0, none⟩ = some (.int .i64 sta) ∧ W.cell? ⟨ga, 1, none⟩ = some (.int .u8 (sda : Int)) ∧ W.cell? ⟨ga, 2, none⟩ = some (.int .u8 (kda : Int)) ∧ W.cell? ⟨ga, 3, none⟩ = some (.int .u8 (dla : Int)) ∧ W.cell? ⟨ga, 4, none⟩ = some (.bool ena) ∧ W.cell? ⟨ga, 5, none⟩ = some (.int .i64 ida) ∧ W.cell? ⟨ga, 6, none⟩ = some (.int .i64 na) ∧ W.cell? ⟨ga, 7, none⟩ = some (.string dta) ∧ W.cell? ⟨ga, 8, none⟩ = some (.int .i64 era) ∧ W.cell? ⟨gp, 0, none⟩ = some (.int .u8 (sd : Int)) ∧ W.cell? ⟨gp, 1, none⟩ = some (.int .u8 (dl : Int)) ∧ W.cell? ⟨gh, kd, none⟩ = some (.func (.func (howK kd)) #[] #[]) := by
  obtain ⟨c0, c1, c2, c3, c4, c5, c6, c7, c8, _⟩ := en_cells h.e
  obtain ⟨a0, a1, a2, a3, a4, a5, a6, a7, a8, _⟩ := en_cells h.a
  obtain ⟨p0, p1⟩ := plc_cells h.p
  exact ⟨c0, c1, c2, c3, c4, c5, c6, c7, c8, a0, a1, a2, a3, a4, a5, a6, a7, a8, p0, p1, how_cell h.h kd h1 h2⟩
/-- What it reads to find the call that waits. -/
structure FJ (gp gh ge g : Nat) (st : Int) (sd kd dl : Nat) (en : Bool) (id n : Int) (dt : ByteArray) (er : Int) (r : Rc) (W : World) : Prop where
  e : EnBlk W ge st sd kd dl en id n dt er
  p : W.heap[gp]? = some (.cells #[.int .u8 (sd : Int), .int .u8 (dl : Int)] 62 (0, 0))
  h : W.heap[gh]? = some (.cells #[.nilFunc, .func (.func 36) #[] #[], .func (.func 36) #[] #[], .func (.func 37) #[] #[], .func (.func 38) #[] #[], .func (.func 39) #[] #[]] 71 (0, 0))
  r : RcBlk W g r
theorem FJ.below {gp gh ge g : Nat} {st : Int} {sd kd dl : Nat} {en : Bool} {id n : Int} {dt : ByteArray} {er : Int} {r : Rc} {W W' : World} (h : FJ gp gh ge g st sd kd dl en id n dt er r W) (b : Below W.heap.size W W') : FJ gp gh ge g st sd kd dl en id n dt er r W' :=
  ⟨(b.block _ (Array.getElem?_eq_some_iff.1 h.e).1).trans h.e, (b.block _ (Array.getElem?_eq_some_iff.1 h.p).1).trans h.p, (b.block _ (Array.getElem?_eq_some_iff.1 h.h).1).trans h.h, (b.block _ (Array.getElem?_eq_some_iff.1 h.r).1).trans h.r⟩
/-- An entry's block, written. -/
abbrev enW (w : World) (g : Nat) (st : Int) (sd kd dl : Nat) (en : Bool) (id n : Int) (dt : ByteArray) (er : Int) : World := (((((((((w.setCell ⟨g, 0, none⟩ (.int .i64 st)).setCell ⟨g, 1, none⟩ (.int .u8 (sd : Int))).setCell ⟨g, 2, none⟩ (.int .u8 (kd : Int))).setCell ⟨g, 3, none⟩ (.int .u8 (dl : Int))).setCell ⟨g, 4, none⟩ (.bool en)).setCell ⟨g, 5, none⟩ (.int .i64 id)).setCell ⟨g, 6, none⟩ (.int .i64 n)).setCell ⟨g, 7, none⟩ (.string dt)).setCell ⟨g, 8, none⟩ (.int .i64 er))
theorem enW_ne (w : World) (g : Nat) (st : Int) (sd kd dl : Nat) (en : Bool) (id n : Int) (dt : ByteArray) (er : Int) (j : Nat) (h : j ≠ g) : (enW w g st sd kd dl en id n dt er).heap[j]? = w.heap[j]? := by
  have s : ∀ (W : World) (q : Nat) (v : Value), (W.setCell ⟨g, q, none⟩ v).heap[j]? = W.heap[j]? := fun W q v => Below.heap_setCell W ⟨g, q, none⟩ v j h
  unfold enW
  rw [s, s, s, s, s, s, s, s, s]
theorem enW_blk {w : World} {g : Nat} (st : Int) (sd kd dl : Nat) (en : Bool) (id n : Int) (dt : ByteArray) (er : Int) (h : EnBlk w g 0 0 0 0 false 0 0 ⟨#[]⟩ 0) : EnBlk (enW w g st sd kd dl en id n dt er) g st sd kd dl en id n dt er := by
  have h9 := blk_set (blk_set (blk_set (blk_set (blk_set (blk_set (blk_set (blk_set (blk_set h 0 (.int .i64 st)) 1 (.int .u8 (sd : Int))) 2 (.int .u8 (kd : Int))) 3 (.int .u8 (dl : Int))) 4 (.bool en)) 5 (.int .i64 id)) 6 (.int .i64 n)) 7 (.string dt)) 8 (.int .i64 er)
  simp only [List.setIfInBounds_toArray, List.set_cons_zero, List.set_cons_succ] at h9
  exact h9
theorem JAt.off {B gj ge : Nat} {js : JS} {L : List (Nat × Nat × Nat)} {W W' : World} {cs : Array Value} {t : TypeId} {fr : Nat × Nat} (h : JAt B gj js L W) (hc : W.heap[ge]? = some (.cells cs t fr)) (h1 : t ≠ 50) (h2 : t ≠ 67) (ho : ∀ j, j ≠ ge → W'.heap[j]? = W.heap[j]?) : JAt B gj js L W' := by
  obtain ⟨gm, h3, h4, h5⟩ := h.row
  have n1 : gj ≠ ge := by intro e; subst e; have e5 := hc.symm.trans h4; injection e5 with e5; injection e5 with _ e5; exact h1 e5
  have n2 : gm ≠ ge := by intro e; subst e; have e5 := hc.symm.trans h5; injection e5 with e5; cases e5
  refine ⟨h.ge, ⟨gm, h3, (ho _ n1).trans h4, (ho _ n2).trans h5⟩, ⟨fun x hx => ?_, h.recs.keys, h.recs.apart, h.recs.rest⟩⟩
  obtain ⟨h6, h7⟩ := h.recs.blk x hx
  exact ⟨h6, (ho _ (h.ne_of hc h1 h2 hx)).trans h7⟩
theorem KJ.enW {B g : Nat} {w b : World} (h : KJ B w b) (hB : B ≤ g) (hg : w.heap.size ≤ g) (st : Int) (sd kd dl : Nat) (en : Bool) (id n : Int) (dt : ByteArray) (er : Int) : KJ B w (enW b g st sd kd dl en id n dt er) :=
  ⟨((((((((h.below.setCell (p := ⟨g, _, none⟩) hB _).setCell (p := ⟨g, _, none⟩) hB _).setCell (p := ⟨g, _, none⟩) hB _).setCell (p := ⟨g, _, none⟩) hB _).setCell (p := ⟨g, _, none⟩) hB _).setCell (p := ⟨g, _, none⟩) hB _).setCell (p := ⟨g, _, none⟩) hB _).setCell (p := ⟨g, _, none⟩) hB _).setCell (p := ⟨g, _, none⟩) hB _, fun j cs t fr h1 h2 h3 => by
    have hj := (Array.getElem?_eq_some_iff.1 h1).1
    exact (enW_ne b g st sd kd dl en id n dt er j (by omega)).trans (h.keep j cs t fr h1 h2 h3)⟩
theorem FJ.off {gp gh ge g ga : Nat} {st : Int} {sd kd dl : Nat} {en : Bool} {id n : Int} {dt : ByteArray} {er : Int} {r : Rc} {W W' : World} (h : FJ gp gh ge g st sd kd dl en id n dt er r W) (hg : gp < ga ∧ gh < ga ∧ ge < ga ∧ g < ga) (ho : ∀ j, j ≠ ga → W'.heap[j]? = W.heap[j]?) : FJ gp gh ge g st sd kd dl en id n dt er r W' :=
  ⟨(ho _ (by omega)).trans h.e, (ho _ (by omega)).trans h.p, (ho _ (by omega)).trans h.h, (ho _ (by omega)).trans h.r⟩
theorem FJ.lt {gp gh ge g : Nat} {st : Int} {sd kd dl : Nat} {en : Bool} {id n : Int} {dt : ByteArray} {er : Int} {r : Rc} {W : World} (h : FJ gp gh ge g st sd kd dl en id n dt er r W) : gp < W.heap.size ∧ gh < W.heap.size ∧ ge < W.heap.size ∧ g < W.heap.size :=
  ⟨(Array.getElem?_eq_some_iff.1 h.p).1, (Array.getElem?_eq_some_iff.1 h.h).1, (Array.getElem?_eq_some_iff.1 h.e).1, (Array.getElem?_eq_some_iff.1 h.r).1⟩
set_option maxRecDepth 100000 in
set_option maxHeartbeats 4000000 in
theorem ends_any (B gj : Nat) (js : JS) (L : List (Nat × Nat × Nat)) (st : Int) (sd kd dl : Nat) (en : Bool) (id n : Int) (dt : ByteArray) (er : Int) (w : World) (hs : sd ≤ 1) (hb : JB js sd dl) (hdt : dt.size ≤ 100000) (h : JAt B gj js L w) :
    Calls Try.prog 22 #[.pointer (some ⟨gj, 0, none⟩), .agg #[.int .i64 st, .int .u8 (sd : Int), .int .u8 (kd : Int), .int .u8 (dl : Int), .bool en, .int .i64 id, .int .i64 n, .string dt, .int .i64 er]] w fun e w' => ∃ L', e = .returned (.bool (endsJ js ⟨st, sd, kd, dl, en, id, n, dt, er⟩).2) ∧ JAt B gj (endsJ js ⟨st, sd, kd, dl, en, id, n, dt, er⟩).1 L' w' ∧ KJ B w w' := by
  have hB : B ≤ w.heap.size := Nat.le_trans h.ge (Nat.le_of_lt h.lt)
  have b1 := ((Below.refl w.heap.size w).alloc (Nat.le_refl _) (.cells #[.int .i64 st, .int .u8 (sd : Int), .int .u8 (kd : Int), .int .u8 (dl : Int), .bool en, .int .i64 id, .int .i64 n, .string dt, .int .i64 er] 38)).alloc (by simp) (.cells #[.nilFunc, .func (.func 36) #[] #[], .func (.func 36) #[] #[], .func (.func 37) #[] #[], .func (.func 38) #[] #[], .func (.func 39) #[] #[]] 71)
  have J1 := (h.alloc (.cells #[.int .i64 st, .int .u8 (sd : Int), .int .u8 (kd : Int), .int .u8 (dl : Int), .bool en, .int .i64 id, .int .i64 n, .string dt, .int .i64 er] 38)).alloc (.cells #[.nilFunc, .func (.func 36) #[] #[], .func (.func 36) #[] #[], .func (.func 37) #[] #[], .func (.func 38) #[] #[], .func (.func 39) #[] #[]] 71)
  have k1 := KJ.ofBelow hB b1
  have E1 : EnBlk ((w.alloc (.cells #[.int .i64 st, .int .u8 (sd : Int), .int .u8 (kd : Int), .int .u8 (dl : Int), .bool en, .int .i64 id, .int .i64 n, .string dt, .int .i64 er] 38)).alloc (.cells #[.nilFunc, .func (.func 36) #[] #[], .func (.func 36) #[] #[], .func (.func 37) #[] #[], .func (.func 38) #[] #[], .func (.func 39) #[] #[]] 71)) w.heap.size st sd kd dl en id n dt er := (Below.heap_alloc _ _ _ (by simp)).trans (World.alloc_heap_new w _)
  have H1 : ((w.alloc (.cells #[.int .i64 st, .int .u8 (sd : Int), .int .u8 (kd : Int), .int .u8 (dl : Int), .bool en, .int .i64 id, .int .i64 n, .string dt, .int .i64 er] 38)).alloc (.cells #[.nilFunc, .func (.func 36) #[] #[], .func (.func 36) #[] #[], .func (.func 37) #[] #[], .func (.func 38) #[] #[], .func (.func 39) #[] #[]] 71)).heap[w.heap.size + 1]? = some (.cells #[.nilFunc, .func (.func 36) #[] #[], .func (.func 36) #[] #[], .func (.func 37) #[] #[], .func (.func 38) #[] #[], .func (.func 39) #[] #[]] 71 (0, 0)) := by
    have := World.alloc_heap_new (w.alloc (.cells #[.int .i64 st, .int .u8 (sd : Int), .int .u8 (kd : Int), .int .u8 (dl : Int), .bool en, .int .i64 id, .int .i64 n, .string dt, .int .i64 er] 38)) (.cells #[.nilFunc, .func (.func 36) #[] #[], .func (.func 36) #[] #[], .func (.func 37) #[] #[], .func (.func 38) #[] #[], .func (.func 39) #[] #[]] 71)
    rw [World.size_alloc] at this
    exact this
  obtain ⟨c0, c1, c2, c3, c4, c5, c6, c7, c8, _⟩ := en_cells E1
  clear b1 h
  obtain ⟨X, hX⟩ : ∃ X, endsJ js ⟨st, sd, kd, dl, en, id, n, dt, er⟩ = X := ⟨_, rfl⟩
  rw [hX]
  have HX := hide hX
  clear hX
  go_enter Try.func22, Try.ntmps22
  go_upto_region 2 with (fail)
  generalize (w.alloc (.cells #[.int .i64 st, .int .u8 (sd : Int), .int .u8 (kd : Int), .int .u8 (dl : Int), .bool en, .int .i64 id, .int .i64 n, .string dt, .int .i64 er] 38)).alloc (.cells #[.nilFunc, .func (.func 36) #[] #[], .func (.func 36) #[] #[], .func (.func 37) #[] #[], .func (.func 38) #[] #[], .func (.func 39) #[] #[]] 71) = w1 at *
  by_cases h0 : kd < 1
  · have h0' : (kd : Int) < 1 := by omega
    have hX : X = (js, false) := by rw [← HX.out]; unfold endsJ; rw [if_pos (.inl (by simp [known]; omega))]
    go_wp2
    go_ret
    try rw [hX]
    first | exact ⟨L, rfl, J1, k1⟩ | exact ⟨rfl, ⟨L, J1⟩, k1⟩
  have h0' : ¬ (kd : Int) < 1 := by omega
  by_cases h5 : 5 < kd
  · have h5' : (5 : Int) < (kd : Int) := by omega
    have hX : X = (js, false) := by rw [← HX.out]; unfold endsJ; rw [if_pos (.inl (by simp [known]; omega))]
    go_wp2
    go_ret
    try rw [hX]
    first | exact ⟨L, rfl, J1, k1⟩ | exact ⟨rfl, ⟨L, J1⟩, k1⟩
  have h5' : ¬ (5 : Int) < (kd : Int) := by omega
  have hkd : 1 ≤ kd ∧ kd ≤ 5 := by omega
  have hk : known kd = true := by simp [known]; omega
  go_wp2_with fail
  refine (there_any dl _).mono ?_
  rintro e w2 ⟨rfl, rfl⟩
  cases ht : there dl with
  | false =>
    have hX : X = (js, false) := by rw [← HX.out]; unfold endsJ; rw [if_pos (.inr ht)]
    go_wp2
    go_ret
    try rw [hX]
    first | exact ⟨L, rfl, J1, k1⟩ | exact ⟨rfl, ⟨L, J1⟩, k1⟩
  | true =>
  have hX1 : ¬ (known kd = false ∨ there dl = false) := by rw [hk, ht]; simp
  have hB1 : B ≤ w1.heap.size := Nat.le_trans J1.ge (Nat.le_of_lt J1.lt)
  have b2 := (Below.refl w1.heap.size w1).alloc (Nat.le_refl _) (.cells #[.int .u8 (sd : Int), .int .u8 (dl : Int)] 62)
  have J2 := J1.alloc (.cells #[.int .u8 (sd : Int), .int .u8 (dl : Int)] 62)
  have k2 := k1.trans (KJ.ofBelow hB1 b2)
  have P2 : (w1.alloc (.cells #[.int .u8 (sd : Int), .int .u8 (dl : Int)] 62)).heap[w1.heap.size]? = some (.cells #[.int .u8 (sd : Int), .int .u8 (dl : Int)] 62 (0, 0)) := World.alloc_heap_new w1 _
  have E2 := (b2.block _ (Array.getElem?_eq_some_iff.1 E1).1).trans E1
  have H2 := (b2.block _ (Array.getElem?_eq_some_iff.1 H1).1).trans H1
  obtain ⟨p0, p1⟩ := plc_cells P2
  obtain ⟨c0, c1, c2, c3, c4, c5, c6, c7, c8, _⟩ := en_cells E2
  clear b2 J1 k1 E1 H1
  go_upto_region 5 with (fail)
  generalize w1.alloc (.cells #[.int .u8 (sd : Int), .int .u8 (dl : Int)] 62) = w2 at *
  generalize w1.heap.size = gp at *
  go_wp2_with fail
  refine (record_any B gj js L sd dl w2 J2).mono ?_
  rintro e w3 ⟨g, L3, rfl, J3, hm3, hL3, k3⟩
  have hS0 : FJ gp (w.heap.size + 1) w.heap.size g st sd kd dl en id n dt er (js.recs sd dl) w3 := ⟨k3.keep _ _ _ _ E2 (by decide) (by decide), k3.keep _ _ _ _ P2 (by decide) (by decide), k3.keep _ _ _ _ H2 (by decide) (by decide), (J3.recs.blk _ hm3).2⟩
  replace k3 := k2.trans k3
  clear J2 k2 E2 P2 H2 p0 p1 c0 c1 c2 c3 c4 c5 c6 c7 c8
  have hkd6 : (kd : Int) < 6 := by omega
  obtain ⟨a, ha⟩ : ∃ a, (js.recs sd dl).waits kd = a := ⟨_, rfl⟩
  obtain ⟨sta, sda, kda, dla, ena, ida, na, dta, era⟩ := a
  go_upto_region 6 with (fail)
  refine wp_region_held (S := fun W => FJ gp (w.heap.size + 1) w.heap.size g st sd kd dl en id n dt er (js.recs sd dl) W) (by kernel_rfl) ?_
  change wpAnyH _ _ _ _ _ _ _ _ (World.drew _)
  have hS : FJ gp (w.heap.size + 1) w.heap.size g st sd kd dl en id n dt er (js.recs sd dl) w3.drew := ⟨hS0.e, hS0.p, hS0.h, hS0.r⟩
  have J4 := J3.drew
  have k4 : KJ B w w3.drew := ⟨below_drewN k3.below 1, k3.keep⟩
  clear hS0 J3 k3
  generalize w3.drew = w4 at *
  refine take_atH 0 32 hS rfl rfl (by kernel_rfl) (by kernel_rfl) (by kernel_rfl) (fun _ _ _ h => h) rfl (fun wq hq => by go_simp; first | done | with_reducible rfl) ?_
  simp only [Act.put, List.setIfInBounds_toArray, List.set_cons_zero, List.set_cons_succ]
  refine take_atH 1 33 hS rfl rfl (by kernel_rfl) (by kernel_rfl) (by kernel_rfl) (fun _ _ _ h => h) rfl (fun wq hq => by go_simp; first | done | with_reducible rfl) ?_
  simp only [Act.put, List.setIfInBounds_toArray, List.set_cons_zero, List.set_cons_succ]
  refine take_atH 2 34 hS rfl rfl (by kernel_rfl) (by kernel_rfl) (by kernel_rfl) (fun _ _ _ h => h) rfl (fun wq hq => by obtain ⟨c0, c1, c2, c3, c4, c5, c6, c7, c8, _⟩ := en_cells hq.e; obtain ⟨x0, x1, x2, x3, x4, x5, x6, x7, x8⟩ := rc_wait hq.r kd hkd.2; go_simp; first | done | with_reducible rfl) ?_
  simp only [Act.put, List.setIfInBounds_toArray, List.set_cons_zero, List.set_cons_succ]
  refine take_atH 3 35 hS rfl rfl (by kernel_rfl) (by kernel_rfl) (by kernel_rfl) (fun _ _ _ h => h) rfl (fun wq hq => by go_simp; first | done | with_reducible rfl) ?_
  simp only [Act.put, List.setIfInBounds_toArray, List.set_cons_zero, List.set_cons_succ]
  refine take_atH 4 36 hS rfl rfl (by kernel_rfl) (by kernel_rfl) (by kernel_rfl) (fun _ _ _ h => h) rfl (fun wq hq => by go_simp; first | done | with_reducible rfl) ?_
  simp only [Act.put, List.setIfInBounds_toArray, List.set_cons_zero, List.set_cons_succ]
  refine take_atH 5 37 hS rfl rfl (by kernel_rfl) (by kernel_rfl) (by kernel_rfl) (fun _ _ _ h => h) rfl (fun wq hq => by go_simp; first | done | with_reducible rfl) ?_
  simp only [Act.put, List.setIfInBounds_toArray, List.set_cons_zero, List.set_cons_succ]
  refine take_atH 6 38 hS rfl rfl (by kernel_rfl) (by kernel_rfl) (by kernel_rfl) (fun _ _ _ h => h) rfl (fun wq hq => by obtain ⟨c0, c1, c2, c3, c4, c5, c6, c7, c8, _⟩ := en_cells hq.e; obtain ⟨x0, x1, x2, x3, x4, x5, x6, x7, x8⟩ := rc_wait hq.r kd hkd.2; go_simp; first | done | with_reducible rfl) ?_
  simp only [Act.put, List.setIfInBounds_toArray, List.set_cons_zero, List.set_cons_succ]
  refine lone_atH 7 rfl (by kernel_rfl) rfl (fun K hK => ?_)
  go_simp
  have hB4 : B ≤ w4.heap.size := Nat.le_trans hB k4.below.size
  have b5 := (Below.refl w4.heap.size w4).alloc (Nat.le_refl _) (.cells #[.int .i64 0, .int .u8 0, .int .u8 0, .int .u8 0, .bool false, .int .i64 0, .int .i64 0, .string ⟨#[]⟩, .int .i64 0] 38)
  have A5 : EnBlk (w4.alloc (.cells #[.int .i64 0, .int .u8 0, .int .u8 0, .int .u8 0, .bool false, .int .i64 0, .int .i64 0, .string ⟨#[]⟩, .int .i64 0] 38)) w4.heap.size 0 0 0 0 false 0 0 ⟨#[]⟩ 0 := World.alloc_heap_new w4 _
  have S5 := hS.below b5
  have J5 := J4.below b5
  have k5 := k4.trans (KJ.ofBelow hB4 b5)
  refine hK _ _ S5 ?_; clear hK K
  refine lone_atH 8 rfl (by kernel_rfl) rfl (fun K hK => ?_)
  have lt5 := hS.lt
  obtain ⟨ga, hga⟩ : ∃ ga, w4.heap.size = ga := ⟨_, rfl⟩
  have hBw : w.heap.size ≤ ga := by rw [← hga]; exact k4.below.size
  rw [hga] at A5 lt5 hB4
  obtain ⟨z0, z1, z2, z3, z4, z5, z6, z7, z8, _⟩ := en_cells A5
  have fz : ∀ q, (w4.alloc (.cells #[.int .i64 0, .int .u8 0, .int .u8 0, .int .u8 0, .bool false, .int .i64 0, .int .i64 0, .string ⟨#[]⟩, .int .i64 0] 38)).frozen? ⟨ga, q, none⟩ = false := fun q => by simp [World.frozen?, A5]
  generalize w4.alloc (.cells #[.int .i64 0, .int .u8 0, .int .u8 0, .int .u8 0, .bool false, .int .i64 0, .int .i64 0, .string ⟨#[]⟩, .int .i64 0] 38) = w5 at *
  go_simp
  have o6 := enW_ne w5 ga sta sda kda dla ena ida na dta era
  have A6 := enW_blk sta sda kda dla ena ida na dta era A5
  have S6 := S5.off lt5 o6
  have J6 := J5.off A5 (by decide) (by decide) o6
  have k6 := k5.enW hB4 hBw sta sda kda dla ena ida na dta era
  refine hK _ _ S6 ?_; clear hK K
  refine wpAnyH_done (by kernel_rfl) ?_ _
  change Exit.then _ _ _ _ (enW w5 ga sta sda kda dla ena ida na dta era)
  clear z0 z1 z2 z3 z4 z5 z6 z7 z8 fz A5 S5 J5 k5 hS J4 k4 b5
  have hS0 : HJ gp (w.heap.size + 1) ga w.heap.size sta sda kda dla ena ida na dta era st sd kd dl en id n dt er (enW w5 ga sta sda kda dla ena ida na dta era) := ⟨S6.e, A6, S6.p, S6.h⟩
  have R5 := S6.r
  have J5 := J6
  have k5 := k6
  clear o6 A6 S6 J6 k6
  generalize enW w5 ga sta sda kda dla ena ida na dta era = w5 at *
  have HW : waiting (js.recs sd dl) kd = decide (kda ≠ 0) := by unfold waiting; rw [ha]
  have hdta : dta.size ≤ 100000 := by have := hb.wt sd kd; rw [ha] at this; exact this
  by_cases hw : kda = 0
  · have hw0 : waiting (js.recs sd dl) kd = false := by rw [HW, hw]; rfl
    have hX : X = (js, false) := by rw [← HX.out]; unfold endsJ; rw [if_neg hX1, if_pos (.inl hw0)]
    go_upto_region 7 with (fail)
    refine wp_region_held (S := fun W => HJ gp (w.heap.size + 1) ga w.heap.size sta sda kda dla ena ida na dta era st sd kd dl en id n dt er W) (by kernel_rfl) ?_
    change wpAnyH _ _ _ _ _ _ _ _ (World.drew _)
    have hS : HJ gp (w.heap.size + 1) ga w.heap.size sta sda kda dla ena ida na dta era st sd kd dl en id n dt er w5.drew := ⟨hS0.e, hS0.a, hS0.p, hS0.h⟩
    have R6 : RcBlk w5.drew g (js.recs sd dl) := R5
    have J6 := J5.drew
    have k6 : KJ B w w5.drew := ⟨below_drewN k5.below 1, k5.keep⟩
    clear hS0 R5 J5 k5
    generalize w5.drew = w6 at *
    refine take_atH 0 39 hS rfl rfl (by kernel_rfl) (by kernel_rfl) (by kernel_rfl) (fun _ _ _ h => h) rfl (fun wq hq => by go_simp; first | done | with_reducible rfl) ?_
    simp only [Act.put, List.setIfInBounds_toArray, List.set_cons_zero, List.set_cons_succ]
    refine take_atH 1 40 hS rfl rfl (by kernel_rfl) (by kernel_rfl) (by kernel_rfl) (fun _ _ _ h => h) rfl (fun wq hq => by go_simp; first | done | with_reducible rfl) ?_
    simp only [Act.put, List.setIfInBounds_toArray, List.set_cons_zero, List.set_cons_succ]
    refine take_atH 2 41 hS rfl rfl (by kernel_rfl) (by kernel_rfl) (by kernel_rfl) (fun _ _ _ h => h) rfl (fun wq hq => by obtain ⟨c0, c1, c2, c3, c4, c5, c6, c7, c8, a0, a1, a2, a3, a4, a5, a6, a7, a8, p0, p1, hc⟩ := hq.cells hkd.1 hkd.2; go_simp; first | done | with_reducible rfl) ?_
    simp only [Act.put, List.setIfInBounds_toArray, List.set_cons_zero, List.set_cons_succ]
    refine lone_atH 3 rfl (by kernel_rfl) rfl (fun K hK => ?_)
    go_simp
    refine (waiting_any g kd _ _ R6 hkd.2).mono ?_; rintro e wN1 ⟨rfl, rfl⟩
    refine hK _ _ hS ?_; clear hK K
    refine take_atH 4 43 hS rfl rfl (by kernel_rfl) (by kernel_rfl) (by kernel_rfl) (fun _ _ _ h => h) rfl (fun wq hq => by go_simp; first | done | with_reducible rfl) ?_
    simp only [Act.put, List.setIfInBounds_toArray, List.set_cons_zero, List.set_cons_succ]
    refine take_atH 5 44 hS rfl rfl (by kernel_rfl) (by kernel_rfl) (by kernel_rfl) (fun _ _ _ h => h) rfl (fun wq hq => by go_simp; first | done | with_reducible rfl) ?_
    simp only [Act.put, List.setIfInBounds_toArray, List.set_cons_zero, List.set_cons_succ]
    refine skip_atH 6 45 hS rfl rfl (by kernel_rfl) (by kernel_rfl) (by kernel_rfl) (fun _ _ _ h => h) rfl ?_
    simp only [Act.put, List.setIfInBounds_toArray, List.set_cons_zero, List.set_cons_succ]
    refine skip_atH 7 46 hS rfl rfl (by kernel_rfl) (by kernel_rfl) (by kernel_rfl) (fun _ _ _ h => h) rfl ?_
    simp only [Act.put, List.setIfInBounds_toArray, List.set_cons_zero, List.set_cons_succ]
    refine skip_atH 8 47 hS rfl rfl (by kernel_rfl) (by kernel_rfl) (by kernel_rfl) (fun _ _ _ h => h) rfl ?_
    simp only [Act.put, List.setIfInBounds_toArray, List.set_cons_zero, List.set_cons_succ]
    refine skip_atH 9 48 hS rfl rfl (by kernel_rfl) (by kernel_rfl) (by kernel_rfl) (fun _ _ _ h => h) rfl ?_
    simp only [Act.put, List.setIfInBounds_toArray, List.set_cons_zero, List.set_cons_succ]
    refine skip_atH 10 49 hS rfl rfl (by kernel_rfl) (by kernel_rfl) (by kernel_rfl) (fun _ _ _ h => h) rfl ?_
    simp only [Act.put, List.setIfInBounds_toArray, List.set_cons_zero, List.set_cons_succ]
    refine take_atH 11 50 hS rfl rfl (by kernel_rfl) (by kernel_rfl) (by kernel_rfl) (fun _ _ _ h => h) rfl (fun wq hq => by go_simp; first | done | with_reducible rfl) ?_
    simp only [Act.put, List.setIfInBounds_toArray, List.set_cons_zero, List.set_cons_succ]
    refine take_atH 12 51 hS rfl rfl (by kernel_rfl) (by kernel_rfl) (by kernel_rfl) (fun _ _ _ h => h) rfl (fun wq hq => by go_simp; first | done | with_reducible rfl) ?_
    simp only [Act.put, List.setIfInBounds_toArray, List.set_cons_zero, List.set_cons_succ]
    refine skip_atH 13 52 hS rfl rfl (by kernel_rfl) (by kernel_rfl) (by kernel_rfl) (fun _ _ _ h => h) rfl ?_
    simp only [Act.put, List.setIfInBounds_toArray, List.set_cons_zero, List.set_cons_succ]
    refine skip_atH 14 53 hS rfl rfl (by kernel_rfl) (by kernel_rfl) (by kernel_rfl) (fun _ _ _ h => h) rfl ?_
    simp only [Act.put, List.setIfInBounds_toArray, List.set_cons_zero, List.set_cons_succ]
    refine skip_atH 15 54 hS rfl rfl (by kernel_rfl) (by kernel_rfl) (by kernel_rfl) (fun _ _ _ h => h) rfl ?_
    simp only [Act.put, List.setIfInBounds_toArray, List.set_cons_zero, List.set_cons_succ]
    refine skip_atH 16 55 hS rfl rfl (by kernel_rfl) (by kernel_rfl) (by kernel_rfl) (fun _ _ _ h => h) rfl ?_
    simp only [Act.put, List.setIfInBounds_toArray, List.set_cons_zero, List.set_cons_succ]
    refine skip_atH 17 56 hS rfl rfl (by kernel_rfl) (by kernel_rfl) (by kernel_rfl) (fun _ _ _ h => h) rfl ?_
    simp only [Act.put, List.setIfInBounds_toArray, List.set_cons_zero, List.set_cons_succ]
    refine skip_atH 18 57 hS rfl rfl (by kernel_rfl) (by kernel_rfl) (by kernel_rfl) (fun _ _ _ h => h) rfl ?_
    simp only [Act.put, List.setIfInBounds_toArray, List.set_cons_zero, List.set_cons_succ]
    refine skip_atH 19 58 hS rfl rfl (by kernel_rfl) (by kernel_rfl) (by kernel_rfl) (fun _ _ _ h => h) rfl ?_
    simp only [Act.put, List.setIfInBounds_toArray, List.set_cons_zero, List.set_cons_succ]
    refine skip_atH 20 59 hS rfl rfl (by kernel_rfl) (by kernel_rfl) (by kernel_rfl) (fun _ _ _ h => h) rfl ?_
    simp only [Act.put, List.setIfInBounds_toArray, List.set_cons_zero, List.set_cons_succ]
    refine skip_atH 21 60 hS rfl rfl (by kernel_rfl) (by kernel_rfl) (by kernel_rfl) (fun _ _ _ h => h) rfl ?_
    simp only [Act.put, List.setIfInBounds_toArray, List.set_cons_zero, List.set_cons_succ]
    refine skip_atH 22 61 hS rfl rfl (by kernel_rfl) (by kernel_rfl) (by kernel_rfl) (fun _ _ _ h => h) rfl ?_
    simp only [Act.put, List.setIfInBounds_toArray, List.set_cons_zero, List.set_cons_succ]
    refine take_atH 23 62 hS rfl rfl (by kernel_rfl) (by kernel_rfl) (by kernel_rfl) (fun _ _ _ h => h) rfl (fun wq hq => by go_simp; first | done | with_reducible rfl) ?_
    simp only [Act.put, List.setIfInBounds_toArray, List.set_cons_zero, List.set_cons_succ]
    refine wpAnyH_done (by kernel_rfl) ?_ _
    go_wp2
    go_ret
    try rw [hX]
    first | exact ⟨L3, rfl, J6, k6⟩ | exact ⟨rfl, ⟨L3, J6⟩, k6⟩
  have hw1 : waiting (js.recs sd dl) kd = true := by rw [HW]; simp [hw]
  by_cases hi : ida = id
  · subst hi
    have HH := hide (fun W hJ => how_any B gj js L3 sd dl sta sda kda dla ena ida na dta era st sd kd dl en ida n dt er W hs hb hdta hdt hJ)
    have hKK : howK kd = 36 ∨ howK kd = 37 ∨ howK kd = 38 ∨ howK kd = 39 := by
      unfold howK
      (repeat' split) <;> simp
    obtain ⟨Z, hZ⟩ : ∃ Z, howJ js sd dl ⟨sta, sda, kda, dla, ena, ida, na, dta, era⟩ ⟨st, sd, kd, dl, en, ida, n, dt, er⟩ = Z := ⟨_, rfl⟩
    rw [hZ] at HH
    obtain ⟨js7, ok⟩ := Z
    dsimp only at HH
    have hX2 : ¬ (waiting (js.recs sd dl) kd = false ∨ ((js.recs sd dl).waits kd).id ≠ ida) := by rw [hw1, ha]; simp
    have hX : X = if ok = false then (js7, false) else (js7.upd sd dl ((js7.recs sd dl).wait kd zE), true) := by rw [← HX.out]; unfold endsJ; rw [if_neg hX1, if_neg hX2, ha]; simp only [hZ]
    have HX2 := hide hX
    clear HX hX hZ ha
    go_upto_region 7 with (fail)
    refine wp_region_held (S := fun W => HJ gp (w.heap.size + 1) ga w.heap.size sta sda kda dla ena ida na dta era st sd kd dl en ida n dt er W) (by kernel_rfl) ?_
    change wpAnyH _ _ _ _ _ _ _ _ (World.drew _)
    have hS : HJ gp (w.heap.size + 1) ga w.heap.size sta sda kda dla ena ida na dta era st sd kd dl en ida n dt er w5.drew := ⟨hS0.e, hS0.a, hS0.p, hS0.h⟩
    have R6 : RcBlk w5.drew g (js.recs sd dl) := R5
    have J6 := J5.drew
    have k6 : KJ B w w5.drew := ⟨below_drewN k5.below 1, k5.keep⟩
    clear hS0 R5 J5 k5
    generalize w5.drew = w6 at *
    refine take_atH 0 39 hS rfl rfl (by kernel_rfl) (by kernel_rfl) (by kernel_rfl) (fun _ _ _ h => h) rfl (fun wq hq => by go_simp; first | done | with_reducible rfl) ?_
    simp only [Act.put, List.setIfInBounds_toArray, List.set_cons_zero, List.set_cons_succ]
    refine take_atH 1 40 hS rfl rfl (by kernel_rfl) (by kernel_rfl) (by kernel_rfl) (fun _ _ _ h => h) rfl (fun wq hq => by go_simp; first | done | with_reducible rfl) ?_
    simp only [Act.put, List.setIfInBounds_toArray, List.set_cons_zero, List.set_cons_succ]
    refine take_atH 2 41 hS rfl rfl (by kernel_rfl) (by kernel_rfl) (by kernel_rfl) (fun _ _ _ h => h) rfl (fun wq hq => by obtain ⟨c0, c1, c2, c3, c4, c5, c6, c7, c8, a0, a1, a2, a3, a4, a5, a6, a7, a8, p0, p1, hc⟩ := hq.cells hkd.1 hkd.2; go_simp; first | done | with_reducible rfl) ?_
    simp only [Act.put, List.setIfInBounds_toArray, List.set_cons_zero, List.set_cons_succ]
    refine lone_atH 3 rfl (by kernel_rfl) rfl (fun K hK => ?_)
    go_simp
    refine (waiting_any g kd _ _ R6 hkd.2).mono ?_; rintro e wN1 ⟨rfl, rfl⟩
    refine hK _ _ hS ?_; clear hK K
    refine take_atH 4 43 hS rfl rfl (by kernel_rfl) (by kernel_rfl) (by kernel_rfl) (fun _ _ _ h => h) rfl (fun wq hq => by go_simp; first | done | with_reducible rfl) ?_
    simp only [Act.put, List.setIfInBounds_toArray, List.set_cons_zero, List.set_cons_succ]
    refine take_atH 5 44 hS rfl rfl (by kernel_rfl) (by kernel_rfl) (by kernel_rfl) (fun _ _ _ h => h) rfl (fun wq hq => by go_simp; first | done | with_reducible rfl) ?_
    simp only [Act.put, List.setIfInBounds_toArray, List.set_cons_zero, List.set_cons_succ]
    refine take_atH 6 45 hS rfl rfl (by kernel_rfl) (by kernel_rfl) (by kernel_rfl) (fun _ _ _ h => h) rfl (fun wq hq => by go_simp; first | done | with_reducible rfl) ?_
    simp only [Act.put, List.setIfInBounds_toArray, List.set_cons_zero, List.set_cons_succ]
    refine take_atH 7 46 hS rfl rfl (by kernel_rfl) (by kernel_rfl) (by kernel_rfl) (fun _ _ _ h => h) rfl (fun wq hq => by obtain ⟨c0, c1, c2, c3, c4, c5, c6, c7, c8, a0, a1, a2, a3, a4, a5, a6, a7, a8, p0, p1, hc⟩ := hq.cells hkd.1 hkd.2; go_simp; first | done | with_reducible rfl) ?_
    simp only [Act.put, List.setIfInBounds_toArray, List.set_cons_zero, List.set_cons_succ]
    refine take_atH 8 47 hS rfl rfl (by kernel_rfl) (by kernel_rfl) (by kernel_rfl) (fun _ _ _ h => h) rfl (fun wq hq => by go_simp; first | done | with_reducible rfl) ?_
    simp only [Act.put, List.setIfInBounds_toArray, List.set_cons_zero, List.set_cons_succ]
    refine take_atH 9 48 hS rfl rfl (by kernel_rfl) (by kernel_rfl) (by kernel_rfl) (fun _ _ _ h => h) rfl (fun wq hq => by obtain ⟨c0, c1, c2, c3, c4, c5, c6, c7, c8, a0, a1, a2, a3, a4, a5, a6, a7, a8, p0, p1, hc⟩ := hq.cells hkd.1 hkd.2; go_simp; first | done | with_reducible rfl) ?_
    simp only [Act.put, List.setIfInBounds_toArray, List.set_cons_zero, List.set_cons_succ]
    refine take_atH 10 49 hS rfl rfl (by kernel_rfl) (by kernel_rfl) (by kernel_rfl) (fun _ _ _ h => h) rfl (fun wq hq => by go_simp; first | done | with_reducible rfl) ?_
    simp only [Act.put, List.setIfInBounds_toArray, List.set_cons_zero, List.set_cons_succ]
    refine take_atH 11 50 hS rfl rfl (by kernel_rfl) (by kernel_rfl) (by kernel_rfl) (fun _ _ _ h => h) rfl (fun wq hq => by go_simp; first | done | with_reducible rfl) ?_
    simp only [Act.put, List.setIfInBounds_toArray, List.set_cons_zero, List.set_cons_succ]
    refine take_atH 12 51 hS rfl rfl (by kernel_rfl) (by kernel_rfl) (by kernel_rfl) (fun _ _ _ h => h) rfl (fun wq hq => by go_simp; first | done | with_reducible rfl) ?_
    simp only [Act.put, List.setIfInBounds_toArray, List.set_cons_zero, List.set_cons_succ]
    refine take_atH 13 52 hS rfl rfl (by kernel_rfl) (by kernel_rfl) (by kernel_rfl) (fun _ _ _ h => h) rfl (fun wq hq => by go_simp; first | done | with_reducible rfl) ?_
    simp only [Act.put, List.setIfInBounds_toArray, List.set_cons_zero, List.set_cons_succ]
    refine take_atH 14 53 hS rfl rfl (by kernel_rfl) (by kernel_rfl) (by kernel_rfl) (fun _ _ _ h => h) rfl (fun wq hq => by obtain ⟨c0, c1, c2, c3, c4, c5, c6, c7, c8, a0, a1, a2, a3, a4, a5, a6, a7, a8, p0, p1, hc⟩ := hq.cells hkd.1 hkd.2; go_simp; first | done | with_reducible rfl) ?_
    simp only [Act.put, List.setIfInBounds_toArray, List.set_cons_zero, List.set_cons_succ]
    refine take_atH 15 54 hS rfl rfl (by kernel_rfl) (by kernel_rfl) (by kernel_rfl) (fun _ _ _ h => h) rfl (fun wq hq => by go_simp; first | done | with_reducible rfl) ?_
    simp only [Act.put, List.setIfInBounds_toArray, List.set_cons_zero, List.set_cons_succ]
    refine take_atH 16 55 hS rfl rfl (by kernel_rfl) (by kernel_rfl) (by kernel_rfl) (fun _ _ _ h => h) rfl (fun wq hq => by obtain ⟨c0, c1, c2, c3, c4, c5, c6, c7, c8, a0, a1, a2, a3, a4, a5, a6, a7, a8, p0, p1, hc⟩ := hq.cells hkd.1 hkd.2; go_simp; first | done | with_reducible rfl) ?_
    simp only [Act.put, List.setIfInBounds_toArray, List.set_cons_zero, List.set_cons_succ]
    refine take_atH 17 56 hS rfl rfl (by kernel_rfl) (by kernel_rfl) (by kernel_rfl) (fun _ _ _ h => h) rfl (fun wq hq => by go_simp; first | done | with_reducible rfl) ?_
    simp only [Act.put, List.setIfInBounds_toArray, List.set_cons_zero, List.set_cons_succ]
    refine take_atH 18 57 hS rfl rfl (by kernel_rfl) (by kernel_rfl) (by kernel_rfl) (fun _ _ _ h => h) rfl (fun wq hq => by obtain ⟨c0, c1, c2, c3, c4, c5, c6, c7, c8, a0, a1, a2, a3, a4, a5, a6, a7, a8, p0, p1, hc⟩ := hq.cells hkd.1 hkd.2; go_simp; first | done | with_reducible rfl) ?_
    simp only [Act.put, List.setIfInBounds_toArray, List.set_cons_zero, List.set_cons_succ]
    refine take_atH 19 58 hS rfl rfl (by kernel_rfl) (by kernel_rfl) (by kernel_rfl) (fun _ _ _ h => h) rfl (fun wq hq => by obtain ⟨c0, c1, c2, c3, c4, c5, c6, c7, c8, a0, a1, a2, a3, a4, a5, a6, a7, a8, p0, p1, hc⟩ := hq.cells hkd.1 hkd.2; go_simp; first | done | with_reducible rfl) ?_
    simp only [Act.put, List.setIfInBounds_toArray, List.set_cons_zero, List.set_cons_succ]
    refine take_atH 20 59 hS rfl rfl (by kernel_rfl) (by kernel_rfl) (by kernel_rfl) (fun _ _ _ h => h) rfl (fun wq hq => by obtain ⟨c0, c1, c2, c3, c4, c5, c6, c7, c8, a0, a1, a2, a3, a4, a5, a6, a7, a8, p0, p1, hc⟩ := hq.cells hkd.1 hkd.2; go_simp; first | done | with_reducible rfl) ?_
    simp only [Act.put, List.setIfInBounds_toArray, List.set_cons_zero, List.set_cons_succ]
    rcases hKK with hKK | hKK | hKK | hKK
    all_goals
      rw [hKK] at HH
      refine lone_atH 21 rfl (by kernel_rfl) rfl (fun K hK => ?_)
      go_simp
      refine (HH.out _ J6).mono ?_; rintro e wN2 ⟨L7, rfl, J7, k7, i7⟩
      refine (fun hN2 => hK _ _ hN2 ?_) (hS.keep k7); clear hK K
      refine take_atH 22 61 hN2 rfl rfl (by kernel_rfl) (by kernel_rfl) (by kernel_rfl) (fun _ _ _ h => h) rfl (fun wq hq => by go_simp; first | done | with_reducible rfl) ?_
      simp only [Act.put, List.setIfInBounds_toArray, List.set_cons_zero, List.set_cons_succ]
      refine take_atH 23 62 hN2 rfl rfl (by kernel_rfl) (by kernel_rfl) (by kernel_rfl) (fun _ _ _ h => h) rfl (fun wq hq => by go_simp; first | done | with_reducible rfl) ?_
      simp only [Act.put, List.setIfInBounds_toArray, List.set_cons_zero, List.set_cons_succ]
      refine wpAnyH_done (by kernel_rfl) ?_ _
      have k8 := k6.trans k7
      have hm8 := i7 _ hm3
      have E8 := hN2.e
      have J8 := J7
      clear hN2 J7 k7 J6 k6 R6 hS i7
      generalize wN2 = w8 at *
      cases ok with
      | false =>
        have hX : X = (js7, false) := by rw [HX2.out]; rfl
        clear HX2
        go_wp2
        go_ret
        try rw [hX]
        first | exact ⟨L7, rfl, J8, k8⟩ | exact ⟨rfl, ⟨L7, J8⟩, k8⟩
      | true =>
          have hX : X = (js7.upd sd dl ((js7.recs sd dl).wait kd zE), true) := by rw [HX2.out]; rfl
          clear HX2
          go_upto_region 9 with (fail)
          refine wp_region_held (S := fun W => EnBlk W w.heap.size st sd kd dl en ida n dt er) (by kernel_rfl) ?_
          change wpAnyH _ _ _ _ _ _ _ _ (World.drew _)
          have hS : EnBlk w8.drew w.heap.size st sd kd dl en ida n dt er := E8
          have J9 := J8.drew
          have k9 : KJ B w w8.drew := ⟨below_drewN k8.below 1, k8.keep⟩
          clear E8 J8 k8
          generalize w8.drew = w9 at *
          refine take_atH 0 63 hS rfl rfl (by kernel_rfl) (by kernel_rfl) (by kernel_rfl) (fun _ _ _ h => h) rfl (fun wq hq => by go_simp; first | done | with_reducible rfl) ?_
          simp only [Act.put, List.setIfInBounds_toArray, List.set_cons_zero, List.set_cons_succ]
          refine take_atH 1 64 hS rfl rfl (by kernel_rfl) (by kernel_rfl) (by kernel_rfl) (fun _ _ _ h => h) rfl (fun wq hq => by go_simp; first | done | with_reducible rfl) ?_
          simp only [Act.put, List.setIfInBounds_toArray, List.set_cons_zero, List.set_cons_succ]
          refine take_atH 2 65 hS rfl rfl (by kernel_rfl) (by kernel_rfl) (by kernel_rfl) (fun _ _ _ h => h) rfl (fun wq hq => by obtain ⟨c0, c1, c2, c3, c4, c5, c6, c7, c8, _⟩ := en_cells hq; go_simp; first | done | with_reducible rfl) ?_
          simp only [Act.put, List.setIfInBounds_toArray, List.set_cons_zero, List.set_cons_succ]
          refine take_atH 3 66 hS rfl rfl (by kernel_rfl) (by kernel_rfl) (by kernel_rfl) (fun _ _ _ h => h) rfl (fun wq hq => by go_simp; first | done | with_reducible rfl) ?_
          simp only [Act.put, List.setIfInBounds_toArray, List.set_cons_zero, List.set_cons_succ]
          refine take_atH 4 67 hS rfl rfl (by kernel_rfl) (by kernel_rfl) (by kernel_rfl) (fun _ _ _ h => h) rfl (fun wq hq => by go_simp; first | done | with_reducible rfl) ?_
          simp only [Act.put, List.setIfInBounds_toArray, List.set_cons_zero, List.set_cons_succ]
          refine take_atH 5 68 hS rfl rfl (by kernel_rfl) (by kernel_rfl) (by kernel_rfl) (fun _ _ _ h => h) rfl (fun wq hq => by go_simp; first | done | with_reducible rfl) ?_
          simp only [Act.put, List.setIfInBounds_toArray, List.set_cons_zero, List.set_cons_succ]
          refine take_atH 6 69 hS rfl rfl (by kernel_rfl) (by kernel_rfl) (by kernel_rfl) (fun _ _ _ h => h) rfl (fun wq hq => by go_simp; first | done | with_reducible rfl) ?_
          simp only [Act.put, List.setIfInBounds_toArray, List.set_cons_zero, List.set_cons_succ]
          refine lone_atH 7 rfl (by kernel_rfl) rfl (fun K hK => ?_)
          obtain ⟨hg9, R9⟩ := J9.recs.blk _ hm8
          dsimp only at hg9 R9
          obtain ⟨_, _, _, _, _, fz⟩ := rc_fields R9
          obtain ⟨x0, x1, x2, x3, x4, x5, x6, x7, x8⟩ := rc_wait R9 kd hkd.2
          go_simp
          have R10 := putW_blk 0 0 0 0 false 0 0 ⟨#[]⟩ 0 R9 hkd.2
          have k10 := k9.putW hg9 R9 kd 0 0 0 0 false 0 0 ⟨#[]⟩ 0
          have o10 := putW_ne w9 g kd 0 0 0 0 false 0 0 ⟨#[]⟩ 0
          have J10 := J9.turn hm8 R10 o10
          have E10 := (o10 _ (J9.ne_of hS (by decide) (by decide) hm8).symm).trans hS
          refine hK _ _ E10 ?_; clear hK K
          refine wpAnyH_done (by kernel_rfl) ?_ _
          clear x0 x1 x2 x3 x4 x5 x6 x7 x8 fz
          change Exit.then _ _ _ _ (putW w9 g kd 0 0 0 0 false 0 0 ⟨#[]⟩ 0)
          generalize putW w9 g kd 0 0 0 0 false 0 0 ⟨#[]⟩ 0 = w10 at *
          go_wp2
          go_ret
          try rw [hX]
          first | exact ⟨L7, rfl, J10, k10⟩ | exact ⟨rfl, ⟨L7, J10⟩, k10⟩
  · have hi' : (ida == id) = false := beq_eq_false_iff_ne.2 hi
    have hi2 : (ida != id) = true := by simp [bne, hi']
    have hX : X = (js, false) := by rw [← HX.out]; unfold endsJ; rw [if_neg hX1, if_pos (.inr (by rw [ha]; exact hi))]
    go_upto_region 7 with (fail)
    refine wp_region_held (S := fun W => HJ gp (w.heap.size + 1) ga w.heap.size sta sda kda dla ena ida na dta era st sd kd dl en id n dt er W) (by kernel_rfl) ?_
    change wpAnyH _ _ _ _ _ _ _ _ (World.drew _)
    have hS : HJ gp (w.heap.size + 1) ga w.heap.size sta sda kda dla ena ida na dta era st sd kd dl en id n dt er w5.drew := ⟨hS0.e, hS0.a, hS0.p, hS0.h⟩
    have R6 : RcBlk w5.drew g (js.recs sd dl) := R5
    have J6 := J5.drew
    have k6 : KJ B w w5.drew := ⟨below_drewN k5.below 1, k5.keep⟩
    clear hS0 R5 J5 k5
    generalize w5.drew = w6 at *
    refine take_atH 0 39 hS rfl rfl (by kernel_rfl) (by kernel_rfl) (by kernel_rfl) (fun _ _ _ h => h) rfl (fun wq hq => by go_simp; first | done | with_reducible rfl) ?_
    simp only [Act.put, List.setIfInBounds_toArray, List.set_cons_zero, List.set_cons_succ]
    refine take_atH 1 40 hS rfl rfl (by kernel_rfl) (by kernel_rfl) (by kernel_rfl) (fun _ _ _ h => h) rfl (fun wq hq => by go_simp; first | done | with_reducible rfl) ?_
    simp only [Act.put, List.setIfInBounds_toArray, List.set_cons_zero, List.set_cons_succ]
    refine take_atH 2 41 hS rfl rfl (by kernel_rfl) (by kernel_rfl) (by kernel_rfl) (fun _ _ _ h => h) rfl (fun wq hq => by obtain ⟨c0, c1, c2, c3, c4, c5, c6, c7, c8, a0, a1, a2, a3, a4, a5, a6, a7, a8, p0, p1, hc⟩ := hq.cells hkd.1 hkd.2; go_simp; first | done | with_reducible rfl) ?_
    simp only [Act.put, List.setIfInBounds_toArray, List.set_cons_zero, List.set_cons_succ]
    refine lone_atH 3 rfl (by kernel_rfl) rfl (fun K hK => ?_)
    go_simp
    refine (waiting_any g kd _ _ R6 hkd.2).mono ?_; rintro e wN1 ⟨rfl, rfl⟩
    refine hK _ _ hS ?_; clear hK K
    refine take_atH 4 43 hS rfl rfl (by kernel_rfl) (by kernel_rfl) (by kernel_rfl) (fun _ _ _ h => h) rfl (fun wq hq => by go_simp; first | done | with_reducible rfl) ?_
    simp only [Act.put, List.setIfInBounds_toArray, List.set_cons_zero, List.set_cons_succ]
    refine take_atH 5 44 hS rfl rfl (by kernel_rfl) (by kernel_rfl) (by kernel_rfl) (fun _ _ _ h => h) rfl (fun wq hq => by go_simp; first | done | with_reducible rfl) ?_
    simp only [Act.put, List.setIfInBounds_toArray, List.set_cons_zero, List.set_cons_succ]
    refine take_atH 6 45 hS rfl rfl (by kernel_rfl) (by kernel_rfl) (by kernel_rfl) (fun _ _ _ h => h) rfl (fun wq hq => by go_simp; first | done | with_reducible rfl) ?_
    simp only [Act.put, List.setIfInBounds_toArray, List.set_cons_zero, List.set_cons_succ]
    refine take_atH 7 46 hS rfl rfl (by kernel_rfl) (by kernel_rfl) (by kernel_rfl) (fun _ _ _ h => h) rfl (fun wq hq => by obtain ⟨c0, c1, c2, c3, c4, c5, c6, c7, c8, a0, a1, a2, a3, a4, a5, a6, a7, a8, p0, p1, hc⟩ := hq.cells hkd.1 hkd.2; go_simp; first | done | with_reducible rfl) ?_
    simp only [Act.put, List.setIfInBounds_toArray, List.set_cons_zero, List.set_cons_succ]
    refine take_atH 8 47 hS rfl rfl (by kernel_rfl) (by kernel_rfl) (by kernel_rfl) (fun _ _ _ h => h) rfl (fun wq hq => by go_simp; first | done | with_reducible rfl) ?_
    simp only [Act.put, List.setIfInBounds_toArray, List.set_cons_zero, List.set_cons_succ]
    refine take_atH 9 48 hS rfl rfl (by kernel_rfl) (by kernel_rfl) (by kernel_rfl) (fun _ _ _ h => h) rfl (fun wq hq => by obtain ⟨c0, c1, c2, c3, c4, c5, c6, c7, c8, a0, a1, a2, a3, a4, a5, a6, a7, a8, p0, p1, hc⟩ := hq.cells hkd.1 hkd.2; go_simp; first | done | with_reducible rfl) ?_
    simp only [Act.put, List.setIfInBounds_toArray, List.set_cons_zero, List.set_cons_succ]
    refine take_atH 10 49 hS rfl rfl (by kernel_rfl) (by kernel_rfl) (by kernel_rfl) (fun _ _ _ h => h) rfl (fun wq hq => by go_simp; first | done | with_reducible rfl) ?_
    simp only [Act.put, List.setIfInBounds_toArray, List.set_cons_zero, List.set_cons_succ]
    refine take_atH 11 50 hS rfl rfl (by kernel_rfl) (by kernel_rfl) (by kernel_rfl) (fun _ _ _ h => h) rfl (fun wq hq => by go_simp; first | done | with_reducible rfl) ?_
    simp only [Act.put, List.setIfInBounds_toArray, List.set_cons_zero, List.set_cons_succ]
    refine take_atH 12 51 hS rfl rfl (by kernel_rfl) (by kernel_rfl) (by kernel_rfl) (fun _ _ _ h => h) rfl (fun wq hq => by go_simp; first | done | with_reducible rfl) ?_
    simp only [Act.put, List.setIfInBounds_toArray, List.set_cons_zero, List.set_cons_succ]
    refine skip_atH 13 52 hS rfl rfl (by kernel_rfl) (by kernel_rfl) (by kernel_rfl) (fun _ _ _ h => h) rfl ?_
    simp only [Act.put, List.setIfInBounds_toArray, List.set_cons_zero, List.set_cons_succ]
    refine skip_atH 14 53 hS rfl rfl (by kernel_rfl) (by kernel_rfl) (by kernel_rfl) (fun _ _ _ h => h) rfl ?_
    simp only [Act.put, List.setIfInBounds_toArray, List.set_cons_zero, List.set_cons_succ]
    refine skip_atH 15 54 hS rfl rfl (by kernel_rfl) (by kernel_rfl) (by kernel_rfl) (fun _ _ _ h => h) rfl ?_
    simp only [Act.put, List.setIfInBounds_toArray, List.set_cons_zero, List.set_cons_succ]
    refine skip_atH 16 55 hS rfl rfl (by kernel_rfl) (by kernel_rfl) (by kernel_rfl) (fun _ _ _ h => h) rfl ?_
    simp only [Act.put, List.setIfInBounds_toArray, List.set_cons_zero, List.set_cons_succ]
    refine skip_atH 17 56 hS rfl rfl (by kernel_rfl) (by kernel_rfl) (by kernel_rfl) (fun _ _ _ h => h) rfl ?_
    simp only [Act.put, List.setIfInBounds_toArray, List.set_cons_zero, List.set_cons_succ]
    refine skip_atH 18 57 hS rfl rfl (by kernel_rfl) (by kernel_rfl) (by kernel_rfl) (fun _ _ _ h => h) rfl ?_
    simp only [Act.put, List.setIfInBounds_toArray, List.set_cons_zero, List.set_cons_succ]
    refine skip_atH 19 58 hS rfl rfl (by kernel_rfl) (by kernel_rfl) (by kernel_rfl) (fun _ _ _ h => h) rfl ?_
    simp only [Act.put, List.setIfInBounds_toArray, List.set_cons_zero, List.set_cons_succ]
    refine skip_atH 20 59 hS rfl rfl (by kernel_rfl) (by kernel_rfl) (by kernel_rfl) (fun _ _ _ h => h) rfl ?_
    simp only [Act.put, List.setIfInBounds_toArray, List.set_cons_zero, List.set_cons_succ]
    refine skip_atH 21 60 hS rfl rfl (by kernel_rfl) (by kernel_rfl) (by kernel_rfl) (fun _ _ _ h => h) rfl ?_
    simp only [Act.put, List.setIfInBounds_toArray, List.set_cons_zero, List.set_cons_succ]
    refine skip_atH 22 61 hS rfl rfl (by kernel_rfl) (by kernel_rfl) (by kernel_rfl) (fun _ _ _ h => h) rfl ?_
    simp only [Act.put, List.setIfInBounds_toArray, List.set_cons_zero, List.set_cons_succ]
    refine take_atH 23 62 hS rfl rfl (by kernel_rfl) (by kernel_rfl) (by kernel_rfl) (fun _ _ _ h => h) rfl (fun wq hq => by go_simp; first | done | with_reducible rfl) ?_
    simp only [Act.put, List.setIfInBounds_toArray, List.set_cons_zero, List.set_cons_succ]
    refine wpAnyH_done (by kernel_rfl) ?_ _
    go_wp2
    go_ret
    try rw [hX]
    first | exact ⟨L3, rfl, J6, k6⟩ | exact ⟨rfl, ⟨L3, J6⟩, k6⟩
end Go.Proofs.Ytkikonknciffiaa
