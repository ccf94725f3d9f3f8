/- acts and fit: the walks. -/
import Derived.Test.YtkikonknciffiaaHsIdeal
import Derived.Test.YtkikonknciffiaaHsRows
import Derived.Test.YtkikonknciffiaaHsOpen
import Derived.Deep.CutBlock
namespace Go.Proofs.Ytkikonknciffiaa
open Go.RowKit
set_option linter.unusedVariables false
set_option linter.unusedSimpArgs false

theorem HoldsA.below {w w' : World} {a : Option Addr} {n : Nat} {z : Nat → Ac} (h : HoldsA w a n z) (b : Below w.heap.size w w') : HoldsA w' a n z := by
  intro h0
  obtain ⟨g, o, e, h1, h2⟩ := h h0
  exact ⟨g, o, e, Nat.lt_of_lt_of_le h1 b.size, fun i hi j hj => (b.cell (p := ⟨g, _, none⟩) h1).trans (h2 i hi j hj)⟩
theorem ac_at {lb lo k : Nat} {xw xs xk xd : Nat} {xn : Int} {xt : ByteArray} {W : World} (h : ∀ j, j < 6 → W.cell? ⟨lb, lo + (k * 6 + j), none⟩ = (acA ⟨xw, xs, xk, xd, xn, xt⟩)[j]?) : W.cell? ⟨lb, lo + k * 6, none⟩ = some (.int .u8 (xw : Int)) ∧ W.cell? ⟨lb, lo + k * 6 + 1, none⟩ = some (.int .u8 (xs : Int)) ∧ W.cell? ⟨lb, lo + k * 6 + 2, none⟩ = some (.int .u8 (xk : Int)) ∧ W.cell? ⟨lb, lo + k * 6 + 3, none⟩ = some (.int .u8 (xd : Int)) ∧ W.cell? ⟨lb, lo + k * 6 + 4, none⟩ = some (.int .i64 xn) ∧ W.cell? ⟨lb, lo + k * 6 + 5, none⟩ = some (.string xt) := by
  have h' : ∀ j, j < 6 → W.cell? ⟨lb, lo + k * 6 + j, none⟩ = (acA ⟨xw, xs, xk, xd, xn, xt⟩)[j]? := fun j hj => by rw [Nat.add_assoc]; exact h j hj
  exact ⟨h' 0 (by decide), h' 1 (by decide), h' 2 (by decide), h' 3 (by decide), h' 4 (by decide), h' 5 (by decide)⟩
set_option maxRecDepth 100000 in
set_option maxHeartbeats 4000000 in
/-- acts. -/
theorem acts_any (a : Option Addr) (n ca : Nat) (z : Nat → Ac) (top : Nat) (w : World) (hE : HoldsA w a n z) (ht : top ≤ 1000) :
    Calls Try.prog 16 #[.slice a n ca, .int .i64 (top : Int)] w fun e w' => ∃ b : Bool, e = .returned (.bool b) ∧ (b = true → n ≤ top ∧ ∀ i, i < n → (z i).data.size ≤ 30) ∧ Below w.heap.size w w' := by
  have HE := hide hE
  clear hE
  by_cases h0 : top < n
  · have h0' : (top : Int) < (n : Int) := by omega
    go_enter Try.func16, Try.ntmps16
    go_wp2
    go_ret
    exact ⟨false, rfl, (fun x => (by cases x)), Below.refl _ _⟩
  · have h0' : ¬ (top : Int) < (n : Int) := by omega
    go_enter Try.func16, Try.ntmps16
    go_wp2
    go_loopw [5] (fun i wr => ∃ k : Nat, k ≤ n ∧ i = .int .i64 (k : Int) ∧ (∀ i, i < k → (z i).data.size ≤ 30) ∧ Below w.heap.size w wr) (fun i _ => n - (intOf i).toNat)
    case atStart => exact ⟨0, by omega, rfl, fun i hi => by omega, Below.refl _ _⟩
    case round =>
      obtain ⟨k, hkn, rfl, hq, bw⟩ := hrel
      by_cases hkl : k < n
      · have hkl' : (k : Int) < (n : Int) := by omega
        obtain ⟨lb, lo, rfl, hlb, hlc⟩ := HE.out (by omega)
        have hl3 := fun j hj => (bw.cell (p := ⟨lb, _, none⟩) hlb).trans (hlc k hkl j hj)
        have hsu : (∀ i, i < k → (z i).data.size ≤ 30) → (z k).data.size ≤ 30 → ∀ i, i < k + 1 → (z i).data.size ≤ 30 := fun h1 h2 i hi => by
          by_cases h : i = k
          · subst h; exact h2
          · exact h1 i (by omega)
        have hsu' := hsu hq
        obtain ⟨e, hze⟩ : ∃ e, z k = e := ⟨_, rfl⟩
        rw [hze] at hl3 hsu'
        have HSU := hide hsu'
        clear hlc hsu hsu' hq hze
        obtain ⟨xw, xs, xk, xd, xn, xt⟩ := e
        obtain ⟨e0, e1, e2, e3, e4, e5⟩ := ac_at hl3
        clear hl3 e0 e1 e2 e3 e4
        by_cases hd : 30 < xt.size
        · have hd' : (30 : Int) < (xt.size : Int) := by omega
          go_wp2
          go_ret
          first | exact ⟨false, rfl, (fun x => (by cases x)), bw⟩ | exact .inl ⟨rfl, bw⟩
        · have hd' : ¬ (30 : Int) < (xt.size : Int) := by omega
          go_wp2
          go_roundw
          case rel => exact ⟨k + 1, hkl, by go_num, HSU.out (Nat.le_of_not_lt hd), bw⟩
          case measure => simp [intOf]; omega
      · obtain rfl : k = n := by omega
        go_wp2
        go_ret
        first | exact ⟨true, rfl, fun _ => ⟨by omega, hq⟩, bw⟩ | exact .inr ⟨rfl, ⟨by omega, hq⟩, bw⟩

abbrev AcBlk (w : World) (g : Nat) (xw xs xk xd : Nat) (xn : Int) (xt : ByteArray) : Prop := w.heap[g]? = some (.cells #[.int .u8 (xw : Int), .int .u8 (xs : Int), .int .u8 (xk : Int), .int .u8 (xd : Int), .int .i64 xn, .string xt] 52 (0, 0))
theorem ac_cells {w : World} {g xw xs xk xd : Nat} {xn : Int} {xt : ByteArray} (h : AcBlk w g xw xs xk xd xn xt) : w.cell? ⟨g, 0, none⟩ = some (.int .u8 (xw : Int)) ∧ w.cell? ⟨g, 1, none⟩ = some (.int .u8 (xs : Int)) ∧ w.cell? ⟨g, 2, none⟩ = some (.int .u8 (xk : Int)) ∧ w.cell? ⟨g, 3, none⟩ = some (.int .u8 (xd : Int)) ∧ w.cell? ⟨g, 4, none⟩ = some (.int .i64 xn) ∧ w.cell? ⟨g, 5, none⟩ = some (.string xt) := by
  have hc : ∀ q, w.cell? ⟨g, q, none⟩ = (#[.int .u8 (xw : Int), .int .u8 (xs : Int), .int .u8 (xk : Int), .int .u8 (xd : Int), .int .i64 xn, .string xt] : Array Value)[q]? := fun q => by simp only [World.cell?, h]; rfl
  exact ⟨hc 0, hc 1, hc 2, hc 3, hc 4, hc 5⟩
theorem en_frz {w : World} {g : Nat} {st : Int} {sd kd dl : Nat} {en : Bool} {id n : Int} {dt : ByteArray} {er : Int} (h : EnBlk w g st sd kd dl en id n dt er) (q : Nat) : w.frozen? ⟨g, q, none⟩ = false := by simp [World.frozen?, h]
/-- Where fit stands. -/
structure FitAt (w : World) (st : Int) (sd kd dl : Nat) (en : Bool) (id nn : Int) (dt : ByteArray) (er : Int) (xw xs xk xd : Nat) (xn : Int) (xt : ByteArray) (W : World) : Prop where
  e : EnBlk W w.heap.size st sd kd dl en id nn dt er
  x : AcBlk W (w.heap.size + 1) xw xs xk xd xn xt
  r : EnBlk W (w.heap.size + 1 + 1) 0 0 0 0 false 0 0 ⟨#[]⟩ 0
  below : Below w.heap.size w W
  lt : w.heap.size + 2 < W.heap.size
abbrev oEn (st : Int) (sd kd dl : Nat) (en : Bool) (id nn : Int) (dt : ByteArray) (er : Int) : Obj := .cells #[.int .i64 st, .int .u8 (sd : Int), .int .u8 (kd : Int), .int .u8 (dl : Int), .bool en, .int .i64 id, .int .i64 nn, .string dt, .int .i64 er] 38
abbrev oAc (xw xs xk xd : Nat) (xn : Int) (xt : ByteArray) : Obj := .cells #[.int .u8 (xw : Int), .int .u8 (xs : Int), .int .u8 (xk : Int), .int .u8 (xd : Int), .int .i64 xn, .string xt] 52
abbrev oZe : Obj := .cells #[.int .i64 0, .int .u8 0, .int .u8 0, .int .u8 0, .bool false, .int .i64 0, .int .i64 0, .string ⟨#[]⟩, .int .i64 0] 38
section
variable {w W : World} {st : Int} {sd kd dl : Nat} {en : Bool} {id nn : Int} {dt : ByteArray} {er : Int} {xw xs xk xd : Nat} {xn : Int} {xt : ByteArray}
theorem fitAt_new (w : World) (st : Int) (sd kd dl : Nat) (en : Bool) (id nn : Int) (dt : ByteArray) (er : Int) (xw xs xk xd : Nat) (xn : Int) (xt : ByteArray) : FitAt w st sd kd dl en id nn dt er xw xs xk xd xn xt (((w.alloc (oEn st sd kd dl en id nn dt er)).alloc (oAc xw xs xk xd xn xt)).alloc oZe) := by
  have b1 := (Below.refl w.heap.size w).alloc (Nat.le_refl _) (oEn st sd kd dl en id nn dt er)
  have b2 := b1.alloc (by simp) (oAc xw xs xk xd xn xt)
  have h1 := World.alloc_heap_new w (oEn st sd kd dl en id nn dt er)
  have h2 := World.alloc_heap_new (w.alloc (oEn st sd kd dl en id nn dt er)) (oAc xw xs xk xd xn xt)
  have h3 := World.alloc_heap_new ((w.alloc (oEn st sd kd dl en id nn dt er)).alloc (oAc xw xs xk xd xn xt)) oZe
  rw [World.size_alloc] at h2
  rw [World.size_alloc, World.size_alloc] at h3
  exact ⟨(Below.heap_alloc _ _ _ (by simp; omega)).trans ((Below.heap_alloc _ _ _ (by simp)).trans h1), (Below.heap_alloc _ _ _ (by simp)).trans h2, h3, b2.alloc (by simp; omega) oZe, by simp⟩
theorem FitAt.still {W' : World} (h : FitAt w st sd kd dl en id nn dt er xw xs xk xd xn xt W) (k : Still W W') : FitAt w st sd kd dl en id nn dt er xw xs xk xd xn xt W' := by
  obtain ⟨n, rfl⟩ := k
  exact ⟨h.e, h.x, h.r, below_drewN h.below n, h.lt⟩
theorem FitAt.set (h : FitAt w st sd kd dl en id nn dt er xw xs xk xd xn xt W) (q : Nat) (v : Value) {st' : Int} {sd' kd' dl' : Nat} {en' : Bool} {id' nn' : Int} {dt' : ByteArray} {er' : Int}
    (hs : (#[.int .i64 st, .int .u8 (sd : Int), .int .u8 (kd : Int), .int .u8 (dl : Int), .bool en, .int .i64 id, .int .i64 nn, .string dt, .int .i64 er] : Array Value).setIfInBounds q v = #[.int .i64 st', .int .u8 (sd' : Int), .int .u8 (kd' : Int), .int .u8 (dl' : Int), .bool en', .int .i64 id', .int .i64 nn', .string dt', .int .i64 er']) :
    FitAt w st' sd' kd' dl' en' id' nn' dt' er' xw xs xk xd xn xt (W.setCell ⟨w.heap.size, q, none⟩ v) := by
  have h1 := blk_set h.e q v
  rw [hs] at h1
  exact ⟨h1, (Below.heap_setCell _ _ _ _ (by simp)).trans h.x, (Below.heap_setCell _ _ _ _ (by simp; omega)).trans h.r, h.below.setCell (p := ⟨w.heap.size, q, none⟩) (Nat.le_refl _) v, by have := h.lt; simp; omega⟩
end
/-- The condition of fit's first loop. -/
def sameC (e : En) (sd dl kd : Nat) : Bool := decide (e.side = sd) && (decide (e.dlci = dl) && (decide (e.kind = kd) && !e.ends))
theorem begP_same {z : Nat → En} {n s d k : Nat} (h : sameC (z n) s d k = true) : begP z s d k (n + 1) = n := by
  simp only [sameC, Bool.and_eq_true, decide_eq_true_eq, Bool.not_eq_true'] at h
  unfold begP
  rw [if_pos ⟨by unfold hereE; rw [decide_eq_true h.1, decide_eq_true h.2.1]; rfl, h.2.2.1, h.2.2.2⟩]
theorem begP_other {z : Nat → En} {n s d k : Nat} (h : sameC (z n) s d k = false) : begP z s d k (n + 1) = begP z s d k n := by
  conv => lhs; unfold begP
  rw [if_neg]
  rintro ⟨h1, h2, h3⟩
  simp only [hereE, Bool.and_eq_true, decide_eq_true_eq] at h1
  unfold sameC at h
  rw [decide_eq_true h1.1, decide_eq_true h1.2, decide_eq_true h2, h3] at h
  cases h
theorem ret_en {fn : Func} {R : Ending → World → Prop} {a : Act} {W : World} {g : Nat} {st : Int} {sd kd dl : Nat} {en : Bool} {id nn : Int} {dt : ByteArray} {er : Int} (hb : EnBlk W g st sd kd dl en id nn dt er) (hg : a.tmps.getD 6 undef = .pointer (some ⟨g, 0, none⟩)) (hd : a.defers = [])
    (h : R (.returned (.agg #[.int .i64 st, .int .u8 (sd : Int), .int .u8 (kd : Int), .int .u8 (dl : Int), .bool en, .int .i64 id, .int .i64 nn, .string dt, .int .i64 er])) W) (hf : fn.results = #[.cell 6 38] := by rfl) : bodyPost Try.prog fn R .ret a W := by
  refine bodyPost_ret (v := .agg #[.int .i64 st, .int .u8 (sd : Int), .int .u8 (kd : Int), .int .u8 (dl : Int), .bool en, .int .i64 id, .int .i64 nn, .string dt, .int .i64 er]) ?_ hd h
  obtain ⟨c0, c1, c2, c3, c4, c5, c6, c7, c8, _⟩ := en_cells hb
  simp at hg
  simp [results, hf, go_sem, hg, c0, c1, c2, c3, c4, c5, c6, c7, c8]
abbrev setEn (W : World) (g : Nat) (st : Int) (sd kd dl : Nat) (en : Bool) (id nn : Int) (dt : ByteArray) (er : Int) : World := (((((((((W.setCell ⟨g, 0, none⟩ (.int .i64 st)).setCell ⟨g, 1, none⟩ (.int .u8 (sd : Int))).setCell ⟨g, 2, none⟩ (.int .u8 (kd : Int))).setCell ⟨g, 3, none⟩ (.int .u8 (dl : Int))).setCell ⟨g, 4, none⟩ (.bool en)).setCell ⟨g, 5, none⟩ (.int .i64 id)).setCell ⟨g, 6, none⟩ (.int .i64 nn)).setCell ⟨g, 7, none⟩ (.string dt)).setCell ⟨g, 8, none⟩ (.int .i64 er))
theorem en_set {W : World} {g : Nat} {st0 : Int} {sd0 kd0 dl0 : Nat} {en0 : Bool} {id0 nn0 : Int} {dt0 : ByteArray} {er0 : Int} (h : EnBlk W g st0 sd0 kd0 dl0 en0 id0 nn0 dt0 er0) (st : Int) (sd kd dl : Nat) (en : Bool) (id nn : Int) (dt : ByteArray) (er : Int) :
    EnBlk (setEn W g st sd kd dl en id nn dt er) g st sd kd dl en id nn dt er := by
  have h9 := (blk_set (blk_set (blk_set (blk_set (blk_set (blk_set (blk_set (blk_set (blk_set h 0 (.int .i64 st)) 1 (.int .u8 (sd : Int))) 2 (.int .u8 (kd : Int))) 3 (.int .u8 (dl : Int))) 4 (.bool en)) 5 (.int .i64 id)) 6 (.int .i64 nn)) 7 (.string dt)) 8 (.int .i64 er))
  simp only [List.setIfInBounds_toArray, List.set_cons_zero, List.set_cons_succ] at h9
  exact h9
theorem below_setEn {W w : World} {B g : Nat} (h : Below B w W) (hB : B ≤ g) (st : Int) (sd kd dl : Nat) (en : Bool) (id nn : Int) (dt : ByteArray) (er : Int) : Below B w (setEn W g st sd kd dl en id nn dt er) :=
  ((((((((h.setCell (p := ⟨g, _, none⟩) hB _).setCell (p := ⟨g, _, none⟩) hB _).setCell (p := ⟨g, _, none⟩) hB _).setCell (p := ⟨g, _, none⟩) hB _).setCell (p := ⟨g, _, none⟩) hB _).setCell (p := ⟨g, _, none⟩) hB _).setCell (p := ⟨g, _, none⟩) hB _).setCell (p := ⟨g, _, none⟩) hB _).setCell (p := ⟨g, _, none⟩) hB _
set_option maxRecDepth 100000 in
set_option maxHeartbeats 8000000 in
theorem fit_any (a : Option Addr) (m ca : Nat) (z : Nat → En) (st : Int) (sd kd dl : Nat) (en : Bool) (id nn : Int) (dt : ByteArray) (er : Int) (xw xs xk xd : Nat) (xn : Int) (xt : ByteArray) (w : World) (hE : HoldsE w a m z) (hm : m ≤ 60) (hz : ∀ i, i < m → (z i).data.size ≤ 60)
    (hn : -9223372036854775808 ≤ nn ∧ nn ≤ 9223372036854775807) (hd : dt.size ≤ 60) (hxn : -9223372036854775808 ≤ xn ∧ xn ≤ 9223372036854775807) (hxt : xt.size ≤ 60) :
    Calls Try.prog 23 #[.slice a m ca, .agg #[.int .i64 st, .int .u8 (sd : Int), .int .u8 (kd : Int), .int .u8 (dl : Int), .bool en, .int .i64 id, .int .i64 nn, .string dt, .int .i64 er], .agg #[.int .u8 (xw : Int), .int .u8 (xs : Int), .int .u8 (xk : Int), .int .u8 (xd : Int), .int .i64 xn, .string xt]] w
      fun e w' => ∃ (id' nn' : Int) (dt' : ByteArray), e = .returned (.agg #[.int .i64 st, .int .u8 (sd : Int), .int .u8 (kd : Int), .int .u8 (dl : Int), .bool en, .int .i64 id', .int .i64 nn', .string dt', .int .i64 er]) ∧ (-9223372036854775808 ≤ nn' ∧ nn' ≤ 9223372036854775807) ∧ dt'.size ≤ 60 ∧
        (kd = 3 → 0 ≤ begP z sd dl 3 m → nn' = ((z (begP z sd dl 3 m).toNat).data.size : Int)) ∧ Below w.heap.size w w' := by
  have HE := hide hE
  have HZ := hide hz
  clear hE hz
  have D0 := fitAt_new w st sd kd dl en id nn dt er xw xs xk xd xn xt
  unfold oEn oAc oZe at D0
  go_enter Try.func23, Try.ntmps23
  go_upto_region 1 with (fail)
  generalize ((w.alloc (.cells #[.int .i64 st, .int .u8 (sd : Int), .int .u8 (kd : Int), .int .u8 (dl : Int), .bool en, .int .i64 id, .int .i64 nn, .string dt, .int .i64 er] 38)).alloc (.cells #[.int .u8 (xw : Int), .int .u8 (xs : Int), .int .u8 (xk : Int), .int .u8 (xd : Int), .int .i64 xn, .string xt] 52)).alloc (.cells #[.int .i64 0, .int .u8 0, .int .u8 0, .int .u8 0, .bool false, .int .i64 0, .int .i64 0, .string ⟨#[]⟩, .int .i64 0] 38) = w1 at *
  go_wp2
  go_loopw [7] (fun i wr => ∃ (k : Nat) (id' nn' : Int), k ≤ m ∧ i = .int .i64 (k : Int) ∧ FitAt w st sd kd dl en id' nn' dt er xw xs xk xd xn xt wr ∧ (-9223372036854775808 ≤ nn' ∧ nn' ≤ 9223372036854775807) ∧
    Hid (kd = 3 → 0 ≤ begP z sd dl 3 k → nn' = ((z (begP z sd dl 3 k).toNat).data.size : Int))) (fun i _ => m - (intOf i).toNat)
  case atStart => exact ⟨0, id, nn, by omega, rfl, D0, hn, hide (fun _ h => by have : begP z sd dl 3 0 = -1 := rfl; omega)⟩
  case round =>
    clear D0
    obtain ⟨k, id', nn', hkn, rfl, D, hnn, HB⟩ := hrel
    by_cases hkl : k < m
    · have hkl' : (k : Int) < (m : Int) := by omega
      obtain ⟨lb, lo, rfl, hlb, hlc⟩ := HE.out (by omega)
      have hl3 := fun j hj => (D.below.cell (p := ⟨lb, _, none⟩) hlb).trans (hlc k hkl j hj)
      have hsz := HZ.out k hkl
      obtain ⟨C, hC⟩ : ∃ C, sameC (z k) sd dl kd = C := ⟨_, rfl⟩
      have HC := hide hC
      obtain ⟨e, hze⟩ : ∃ e, z k = e := ⟨_, rfl⟩
      have HZE := hide hze
      rw [hze] at hl3 hsz hC
      have hcells := hlc k hkl
      rw [hze] at hcells
      clear hlc hze
      obtain ⟨st', sd', kd', dl', en', id2, n2, dt', er'⟩ := e
      obtain ⟨f0, f1, f2, f3, f4, f5, f6, f7, f8⟩ := en_at hl3
      obtain ⟨c0, c1, c2, c3, c4, c5, c6, c7, c8, _⟩ := en_cells D.e
      unfold sameC at hC
      dsimp only at hC hsz
      clear hl3
      go_upto_region 4 with (fail)
      go_cut [52] (fun s52 wx => s52 = .bool C ∧ Still wr wx)
      case first =>
        as_aux_lemma =>
          clear HC HZE HB f0 f5 f6 f7 f8 c0 c4 c5 c6 c7 c8 D hsz
          by_cases h1 : sd' = sd
          · have h1' : ((sd' : Int) == (sd : Int)) = true := by rw [h1]; exact beq_self_eq_true _
            by_cases h2 : dl' = dl
            · have h2' : ((dl' : Int) == (dl : Int)) = true := by rw [h2]; exact beq_self_eq_true _
              by_cases h3 : kd' = kd
              · have h3' : ((kd' : Int) == (kd : Int)) = true := by rw [h3]; exact beq_self_eq_true _
                have hC' := hide (show (!en') = C by rw [← hC, decide_eq_true h1, decide_eq_true h2, decide_eq_true h3]; rfl)
                clear hC h1 h2 h3
                cases en' with
                | true =>
                  go_quiet (fail)
                  go_wp2
                  go_meet
                  exact ⟨by rw [← hC'.out]; rfl, ⟨_, rfl⟩⟩
                | false =>
                  go_quiet (fail)
                  go_wp2
                  go_meet
                  exact ⟨by rw [← hC'.out]; rfl, ⟨_, rfl⟩⟩
              · have h3' : ((kd' : Int) == (kd : Int)) = false := beq_eq_false_iff_ne.2 (by omega)
                have hC' := hide (show false = C by rw [← hC, decide_eq_false h3]; simp)
                clear hC h1 h2 h3
                go_quiet (fail)
                go_wp2
                go_meet
                exact ⟨by rw [← hC'.out], ⟨_, rfl⟩⟩
            · have h2' : ((dl' : Int) == (dl : Int)) = false := beq_eq_false_iff_ne.2 (by omega)
              have hC' := hide (show false = C by rw [← hC, decide_eq_false h2]; simp)
              clear hC h1 h2
              go_quiet (fail)
              go_wp2
              go_meet
              exact ⟨by rw [← hC'.out], ⟨_, rfl⟩⟩
          · have h1' : ((sd' : Int) == (sd : Int)) = false := beq_eq_false_iff_ne.2 (by omega)
            have hC' := hide (show false = C by rw [← hC, decide_eq_false h1]; simp)
            clear hC h1
            go_quiet (fail)
            go_wp2
            go_meet
            exact ⟨by rw [← hC'.out], ⟨_, rfl⟩⟩
      case rest =>
      obtain ⟨rfl, hst⟩ := hcut
      obtain ⟨nq, rfl⟩ := hst
      have D1 := D.still ⟨nq, rfl⟩
      generalize wr.drewN nq = w2 at *
      clear D hC c0 c1 c2 c3 c4 c5 c6 c7 c8 f0 f1 f2 f3 f4 f5 f6 f7 f8
      cases C with
      | false =>
        have HB' : Hid (kd = 3 → 0 ≤ begP z sd dl 3 (k + 1) → nn' = ((z (begP z sd dl 3 (k + 1)).toNat).data.size : Int)) := hide (fun h3 => by subst h3; rw [begP_other HC.out]; exact HB.out rfl)
        go_wp2
        go_roundw
        case rel => exact ⟨k + 1, id', nn', hkl, by go_num, D1, hnn, HB'⟩
        case measure => simp [intOf]; omega
      | true =>
        have hl3 := fun j hj => (D1.below.cell (p := ⟨lb, _, none⟩) hlb).trans (hcells j hj)
        obtain ⟨f0, f1, f2, f3, f4, f5, f6, f7, f8⟩ := en_at hl3
        obtain ⟨c0, c1, c2, c3, c4, c5, c6, c7, c8, _⟩ := en_cells D1.e
        have z5 := en_frz D1.e 5
        have D2 := D1.set 5 (.int .i64 id2) (id' := id2) rfl
        have hl4 := fun j hj => (D2.below.cell (p := ⟨lb, _, none⟩) hlb).trans (hcells j hj)
        clear hl3
        by_cases h3 : kd = 3
        · subst h3
          have HB' : Hid ((3 : Nat) = 3 → 0 ≤ begP z sd dl 3 (k + 1) → (dt'.size : Int) = ((z (begP z sd dl 3 (k + 1)).toNat).data.size : Int)) := hide (fun _ _ => by rw [begP_same HC.out, Int.toNat_natCast, HZE.out])
          clear HC HB HZE
          go_upto_region 6 with (fail)
          generalize w2.setCell ⟨w.heap.size, 5, none⟩ (.int .i64 id2) = w3 at *
          obtain ⟨f0, f1, f2, f3, f4, f5, f6, f7, f8⟩ := en_at hl4
          obtain ⟨c0, c1, c2, c3, c4, c5, c6, c7, c8, _⟩ := en_cells D2.e
          have z6 := en_frz D2.e 6
          have D3 := D2.set 6 (.int .i64 (dt'.size : Int)) (nn' := (dt'.size : Int)) rfl
          go_wp2
          go_roundw
          case rel => exact ⟨k + 1, id2, (dt'.size : Int), hkl, by go_num, D3, ⟨by omega, by omega⟩, hide (fun _ => HB'.out rfl)⟩
          case measure => simp [intOf]; omega
        · have h3' : ((kd : Int) == 3) = false := beq_eq_false_iff_ne.2 (by omega)
          have HB' : Hid (kd = 3 → 0 ≤ begP z sd dl 3 (k + 1) → nn' = ((z (begP z sd dl 3 (k + 1)).toNat).data.size : Int)) := hide (fun h => absurd h h3)
          clear HC HB HZE
          go_upto_region 6 with (fail)
          generalize w2.setCell ⟨w.heap.size, 5, none⟩ (.int .i64 id2) = w3 at *
          obtain ⟨c0, c1, c2, c3, c4, c5, c6, c7, c8, _⟩ := en_cells D2.e
          go_wp2
          go_roundw
          case rel => exact ⟨k + 1, id2, nn', hkl, by go_num, D2, hnn, HB'⟩
          case measure => simp [intOf]; omega
    · obtain rfl : k = m := by omega
      obtain ⟨c0, c1, c2, c3, c4, c5, c6, c7, c8, _⟩ := en_cells D.e
      obtain ⟨x0, x1, x2, x3, x4, x5⟩ := ac_cells D.x
      go_upto_region 8 with (fail)
      go_cut [76] (fun s76 wx => s76 = .bool (decide (kd = 4) && decide (er = 0)) ∧ wr = wx)
      case first =>
        by_cases h4 : kd = 4
        · have h4' : ((kd : Int) == 4) = true := by rw [h4]; rfl
          by_cases h0 : er = 0
          · have h0' : (er == 0) = true := by rw [h0]; rfl
            have hG := hide (show (decide (kd = 4) && decide (er = 0)) = true by rw [decide_eq_true h4, decide_eq_true h0]; rfl)
            clear h4 h0 HB
            go_wp2
            go_meet
            exact ⟨by rw [hG.out], rfl⟩
          · have h0' : (er == 0) = false := beq_eq_false_iff_ne.2 h0
            have hG := hide (show (decide (kd = 4) && decide (er = 0)) = false by rw [decide_eq_false h0]; simp)
            clear h4 h0 HB
            go_wp2
            go_meet
            exact ⟨by rw [hG.out], rfl⟩
        · have h4' : ((kd : Int) == 4) = false := beq_eq_false_iff_ne.2 (by omega)
          have hG := hide (show (decide (kd = 4) && decide (er = 0)) = false by rw [decide_eq_false h4]; simp)
          clear h4 HB
          go_wp2
          go_meet
          exact ⟨by rw [hG.out], rfl⟩
      case rest =>
      obtain ⟨rfl, rfl⟩ := hcut
      rename_i hnext
      refine hnext _ _ ?_
      clear hnext
      go_cut [76] (fun _ wx => ∃ dt' : ByteArray, FitAt w st sd kd dl en id' nn' dt' er xw xs xk xd xn xt wx ∧ dt'.size ≤ 60)
      case first =>
        clear HB
        cases hb : (decide (kd = 4) && decide (er = 0)) with
        | false =>
          clear hb
          go_wp2
          go_meet
          exact ⟨dt, D, hd⟩
        | true =>
          clear hb
          have z7 := en_frz D.e 7
          have D2 := D.set 7 (.string xt) (dt' := xt) rfl
          go_upto_region 10 with (fail)
          generalize wr.setCell ⟨w.heap.size, 7, none⟩ (.string xt) = w2 at *
          clear D c0 c1 c2 c3 c4 c5 c6 c7 c8 x0 x1 x2 x3 x4 x5 z7
          go_wp2
          go_loopw [8, 9, 10] (fun al t i wr => ∃ (q b : Nat) (y : ByteArray), q ≤ k ∧ i = .int .i64 (q : Int) ∧ al = .string y ∧ y.size ≤ 60 * q ∧ t = .int .i64 (b : Int) ∧ b ≤ 60 * q ∧ FitAt w st sd kd dl en id' nn' xt er xw xs xk xd xn xt wr) (fun _ _ i _ => k - (intOf i).toNat)
          case atStart => exact ⟨0, 0, ⟨#[]⟩, by omega, rfl, rfl, Nat.le_refl _, rfl, by omega, D2⟩
          case round =>
            clear D2
            obtain ⟨q, b, y, hq, rfl, rfl, hy, rfl, hb, D⟩ := hrel
            by_cases hkl : q < k
            · have hkl' : (q : Int) < (k : Int) := by omega
              obtain ⟨lb, lo, rfl, hlb, hlc⟩ := HE.out (by omega)
              have hcells := hlc q hkl
              have hsz := HZ.out q hkl
              obtain ⟨e, hze⟩ : ∃ e, z q = e := ⟨_, rfl⟩
              rw [hze] at hcells hsz
              clear hlc hze
              obtain ⟨st', sd', kd', dl', en', id2, n2, y', er'⟩ := e
              dsimp only at hsz
              have hsum : y.size + y'.size ≤ 4000 := by omega
              have f := fun (W : World) (hb : Below w.heap.size w W) => en_at (fun j hj => (hb.cell (p := ⟨lb, _, none⟩) hlb).trans (hcells j hj))
              have FF := hide f
              clear hcells f
              go_upto_region 14 with (fail)
              go_cut [127] (fun s127 wx => ∃ C : Bool, s127 = .bool C ∧ Still wr wx)
              case first =>
                as_aux_lemma =>
                  obtain ⟨f0, f1, f2, f3, f4, f5, f6, f7, f8⟩ := FF.out _ D.below
                  obtain ⟨c0, c1, c2, c3, c4, c5, c6, c7, c8, _⟩ := en_cells D.e
                  clear D f0 f5 f6 f7 c0 c2 c4 c5 c6 c7 c8 hsz hsum hy hb
                  by_cases h1 : dl' = dl
                  · have h1' : ((dl' : Int) == (dl : Int)) = true := by rw [h1]; exact beq_self_eq_true _
                    clear h1
                    by_cases h2 : kd' = 3
                    · have h2' : ((kd' : Int) == 3) = true := by rw [h2]; rfl
                      clear h2
                      by_cases h3 : sd' = sd
                      · have h3' : ((sd' : Int) != (sd : Int)) = false := by rw [h3]; simp
                        clear h3
                        go_quiet (fail)
                        go_wp2
                        go_meet
                        exact ⟨_, rfl, ⟨_, rfl⟩⟩
                      · have h3' : ((sd' : Int) != (sd : Int)) = true := by simp; omega
                        clear h3
                        cases en' with
                        | true =>
                          go_quiet (fail)
                          go_wp2
                          go_meet
                          exact ⟨_, rfl, ⟨_, rfl⟩⟩
                        | false =>
                          by_cases h4 : er' = 0
                          · have h4' : (er' == 0) = true := by rw [h4]; rfl
                            clear h4
                            go_quiet (fail)
                            go_wp2
                            go_meet
                            exact ⟨_, rfl, ⟨_, rfl⟩⟩
                          · have h4' : (er' == 0) = false := beq_eq_false_iff_ne.2 h4
                            clear h4
                            go_quiet (fail)
                            go_wp2
                            go_meet
                            exact ⟨_, rfl, ⟨_, rfl⟩⟩
                    · have h2' : ((kd' : Int) == 3) = false := beq_eq_false_iff_ne.2 (by omega)
                      clear h2
                      go_quiet (fail)
                      go_wp2
                      go_meet
                      exact ⟨_, rfl, ⟨_, rfl⟩⟩
                  · have h1' : ((dl' : Int) == (dl : Int)) = false := beq_eq_false_iff_ne.2 (by omega)
                    clear h1
                    go_quiet (fail)
                    go_wp2
                    go_meet
                    exact ⟨_, rfl, ⟨_, rfl⟩⟩
              case rest =>
              obtain ⟨C, rfl, nq, rfl⟩ := hcut
              have D1 := D.still ⟨nq, rfl⟩
              clear D
              generalize wr.drewN nq = wx at *
              obtain ⟨Y, hY, hYs⟩ : ∃ Y, (if C = true then y ++ y' else y) = Y ∧ Y.size ≤ 60 * (q + 1) := by
                refine ⟨_, rfl, ?_⟩
                cases C
                · show y.size ≤ _; omega
                · show (y ++ y').size ≤ _; rw [ByteArray.size_append]; omega
              rename_i hnext
              refine hnext _ _ ?_
              clear hnext
              obtain ⟨f0, f1, f2, f3, f4, f5, f6, f7, f8⟩ := FF.out _ D1.below
              go_cut [8] (fun s8 wy => s8 = .string Y ∧ wx = wy)
              case first =>
                have HY := hide hY
                clear hY
                cases C with
                | false =>
                  go_wp2
                  go_meet
                  exact ⟨by rw [← HY.out]; rfl, rfl⟩
                | true =>
                  go_wp2
                  go_meet
                  exact ⟨by rw [← HY.out]; rfl, rfl⟩
              case rest =>
              obtain ⟨rfl, rfl⟩ := hcut
              clear hY f0 f1 f2 f3 f4 f5 f6 f7 f8
              go_upto_region 16 with (fail)
              go_cut [167] (fun s167 wy => ∃ C : Bool, s167 = .bool C ∧ Still wx wy)
              case first =>
                as_aux_lemma =>
                  obtain ⟨f0, f1, f2, f3, f4, f5, f6, f7, f8⟩ := FF.out _ D1.below
                  obtain ⟨c0, c1, c2, c3, c4, c5, c6, c7, c8, _⟩ := en_cells D1.e
                  clear D1 f0 f5 f6 f7 c0 c2 c4 c5 c6 c7 c8 hsz hsum hy hb
                  by_cases h1 : dl' = dl
                  · have h1' : ((dl' : Int) == (dl : Int)) = true := by rw [h1]; exact beq_self_eq_true _
                    clear h1
                    by_cases h2 : kd' = 4
                    · have h2' : ((kd' : Int) == 4) = true := by rw [h2]; rfl
                      clear h2
                      by_cases h3 : sd' = sd
                      · have h3' : ((sd' : Int) == (sd : Int)) = true := by rw [h3]; exact beq_self_eq_true _
                        clear h3
                        go_quiet (fail)
                        go_wp2
                        go_meet
                        exact ⟨_, rfl, ⟨_, rfl⟩⟩
                      · have h3' : ((sd' : Int) == (sd : Int)) = false := beq_eq_false_iff_ne.2 (by omega)
                        clear h3
                        go_quiet (fail)
                        go_wp2
                        go_meet
                        exact ⟨_, rfl, ⟨_, rfl⟩⟩
                    · have h2' : ((kd' : Int) == 4) = false := beq_eq_false_iff_ne.2 (by omega)
                      clear h2
                      go_quiet (fail)
                      go_wp2
                      go_meet
                      exact ⟨_, rfl, ⟨_, rfl⟩⟩
                  · have h1' : ((dl' : Int) == (dl : Int)) = false := beq_eq_false_iff_ne.2 (by omega)
                    clear h1
                    go_quiet (fail)
                    go_wp2
                    go_meet
                    exact ⟨_, rfl, ⟨_, rfl⟩⟩
              case rest =>
              obtain ⟨C2, rfl, nq2, rfl⟩ := hcut
              have D2 := D1.still ⟨nq2, rfl⟩
              clear D1
              generalize wx.drewN nq2 = wy at *
              obtain ⟨f0, f1, f2, f3, f4, f5, f6, f7, f8⟩ := FF.out _ D2.below
              cases C2 with
              | false =>
                go_wp2
                go_roundw
                case rel => exact ⟨q + 1, b, Y, hkl, by go_num, rfl, hYs, rfl, by omega, D2⟩
                case measure => simp [intOf]; omega
              | true =>
                go_wp2
                go_roundw
                case rel => exact ⟨q + 1, b + y'.size, Y, hkl, by go_num, rfl, hYs, by go_num, by omega, D2⟩
                case measure => simp [intOf]; omega
            · obtain rfl : q = k := by omega
              obtain ⟨x0, x1, x2, x3, x4, x5⟩ := ac_cells D.x
              have z7 := en_frz D.e 7
              obtain ⟨c0, c1, c2, c3, c4, c5, c6, c7, c8, _⟩ := en_cells D.e
              by_cases hbl : b < y.size
              · have hbl' : (b : Int) < (y.size : Int) := by omega
                obtain ⟨M, hM, hMx⟩ : ∃ M : Nat, max (0 : Int) xn = (M : Int) ∧ (M : Int) ≤ 9223372036854775807 := ⟨(max 0 xn).toNat, by omega, by omega⟩
                go_wp2
                go_meet
                exact ⟨_, D.set 7 (.string _) rfl, by rw [ByteArray.size_extract]; omega⟩
              · have hbl' : ¬ (b : Int) < (y.size : Int) := by omega
                go_wp2
                go_meet
                exact ⟨xt, D, hxt⟩
      case rest =>
      clear D c0 c1 c2 c3 c4 c5 c6 c7 c8 x0 x1 x2 x3 x4 x5
      obtain ⟨dt', D, hdt⟩ := hcut
      obtain ⟨c0, c1, c2, c3, c4, c5, c6, c7, c8, _⟩ := en_cells D.e
      obtain ⟨r0, r1, r2, r3, r4, r5, r6, r7, r8, _⟩ := en_cells D.r
      have z0 := en_frz D.r 0
      have z1 := en_frz D.r 1
      have z2 := en_frz D.r 2
      have z3 := en_frz D.r 3
      have z4 := en_frz D.r 4
      have z5 := en_frz D.r 5
      have z6 := en_frz D.r 6
      have z7 := en_frz D.r 7
      have z8 := en_frz D.r 8
      go_wp2
      exact ret_en (en_set D.r _ _ _ _ _ _ _ _ _) rfl rfl ⟨id', nn', dt', rfl, hnn, hdt, HB.out, below_setEn D.below (by omega) _ _ _ _ _ _ _ _ _⟩
end Go.Proofs.Ytkikonknciffiaa
