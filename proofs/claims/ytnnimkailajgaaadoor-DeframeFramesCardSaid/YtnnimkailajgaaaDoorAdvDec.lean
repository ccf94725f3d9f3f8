/- advanced.Decode: the walk. -/
import Derived.Test.YtnnimkailajgaaaDoorAdvEnc
import Derived.RangeFuncRecord
namespace Go.Proofs.YtnnimkailajgaaaDoor
open Go.RowKit
set_option linter.unusedVariables false
set_option linter.unusedSimpArgs false

def frV (d : Nat) (c : Bool) (k : Nat) (p : Bool) (s r : Nat) (i : ByteArray) : Value := .agg #[.int .u8 (d : Int), .bool c, .int .u8 (k : Int), .bool p, .int .u8 (s : Int), .int .u8 (r : Int), .string i]
def bad (e : Int) : Ending := .returned (.tuple #[.agg #[.int .u8 0, .bool false, .int .u8 0, .bool false, .int .u8 0, .int .u8 0, .string ⟨#[]⟩], .int .i64 e])
/-- An octet of a text. -/
def oc (t : ByteArray) (j : Nat) : Nat := (bl t).getD j 0
/-- What the octets, read, tell. -/
def decT (t : ByteArray) (b : Bool) (n1 : Int) : Ending :=
  if t.size < 3 then bad 40 else if oc t 0 % 2 = 0 then bad 40 else if gk (oc t 1) = 0 then bad 30
  else if fsum (bl (cov (gk (oc t 1)) (t.extract 0 (t.size - 1)))) ≠ oc t (t.size - 1) then bad 41
  else if mayOk (oc t 0 / 4) (decide (oc t 0 / 2 % 2 = 1) == b) (gk (oc t 1)) (gs (oc t 1)) (gr (oc t 1)) (t.extract 2 (t.size - 1)) = false then bad 40
  else if room n1 < ((t.extract 2 (t.size - 1)).size : Int) then bad 3
  else .returned (.tuple #[frV (oc t 0 / 4) (decide (oc t 0 / 2 % 2 = 1) == b) (gk (oc t 1)) (gp (oc t 1)) (gs (oc t 1)) (gr (oc t 1)) (t.extract 2 (t.size - 1)), .int .i64 0])
def decR (s : ByteArray) (b : Bool) (n1 : Int) : Ending := match unst (bl s) with
  | none => bad 40
  | some t => decT (st t) b n1
theorem decR_none {s : ByteArray} (b : Bool) (n1 : Int) (h : unst (bl s) = none) : decR s b n1 = bad 40 := by unfold decR; rw [h]
theorem decR_some {s : ByteArray} {t : List Nat} (b : Bool) (n1 : Int) (h : unst (bl s) = some t) : decR s b n1 = decT (st t) b n1 := by unfold decR; rw [h]

/-- A frame's block, whole. -/
def FrBlk (w : World) (g : Nat) (d : Nat) (c : Bool) (k : Nat) (p : Bool) (s r : Nat) (i : ByteArray) : Prop :=
  w.heap[g]? = some (.cells #[.int .u8 (d : Int), .bool c, .int .u8 (k : Int), .bool p, .int .u8 (s : Int), .int .u8 (r : Int), .string i] 30 (0, 0))
theorem zero_blk (w : World) {w2 : World} (hb : Below (w.alloc (.cells #[.int .u8 0, .bool false, .int .u8 0, .bool false, .int .u8 0, .int .u8 0, .string ⟨#[]⟩] 30)).heap.size (w.alloc (.cells #[.int .u8 0, .bool false, .int .u8 0, .bool false, .int .u8 0, .int .u8 0, .string ⟨#[]⟩] 30)) w2) :
    FrBlk w2 w.heap.size 0 false 0 false 0 0 ⟨#[]⟩ := (hb.block _ (by simp)).trans (World.alloc_heap_new w _)
theorem frBlk_cell {w : World} {g d k s r : Nat} {c p : Bool} {i : ByteArray} (h : FrBlk w g d c k p s r i) (j : Nat) :
    w.cell? ⟨g, j, none⟩ = (#[Value.int .u8 (d : Int), .bool c, .int .u8 (k : Int), .bool p, .int .u8 (s : Int), .int .u8 (r : Int), .string i] : Array Value)[j]? ∧ w.frozen? ⟨g, j, none⟩ = false := by
  unfold FrBlk at h
  exact ⟨by simp [World.cell?, h], by simp [World.frozen?, h]⟩
theorem zero_cells {w : World} {g d k s r : Nat} {c p : Bool} {i : ByteArray} (h : FrBlk w g d c k p s r i) :
    w.cell? ⟨g, 0, none⟩ = some (.int .u8 (d : Int)) ∧ w.cell? ⟨g, 1, none⟩ = some (.bool c) ∧ w.cell? ⟨g, 2, none⟩ = some (.int .u8 (k : Int)) ∧ w.cell? ⟨g, 3, none⟩ = some (.bool p) ∧ w.cell? ⟨g, 4, none⟩ = some (.int .u8 (s : Int)) ∧ w.cell? ⟨g, 5, none⟩ = some (.int .u8 (r : Int)) ∧ w.cell? ⟨g, 6, none⟩ = some (.string i) ∧
    w.frozen? ⟨g, 0, none⟩ = false ∧ w.frozen? ⟨g, 1, none⟩ = false ∧ w.frozen? ⟨g, 2, none⟩ = false ∧ w.frozen? ⟨g, 3, none⟩ = false ∧ w.frozen? ⟨g, 4, none⟩ = false ∧ w.frozen? ⟨g, 5, none⟩ = false ∧ w.frozen? ⟨g, 6, none⟩ = false :=
  ⟨(frBlk_cell h 0).1, (frBlk_cell h 1).1, (frBlk_cell h 2).1, (frBlk_cell h 3).1, (frBlk_cell h 4).1, (frBlk_cell h 5).1, (frBlk_cell h 6).1, (frBlk_cell h 0).2, (frBlk_cell h 1).2, (frBlk_cell h 2).2, (frBlk_cell h 3).2, (frBlk_cell h 4).2, (frBlk_cell h 5).2, (frBlk_cell h 6).2⟩

theorem blk_set {w : World} {g : Nat} {cs : Array Value} {t : TypeId} (h : w.heap[g]? = some (.cells cs t (0, 0))) (j : Nat) (u : Value) : (w.setCell ⟨g, j, none⟩ u).heap[g]? = some (.cells (cs.setIfInBounds j u) t (0, 0)) := by
  simp [World.setCell, Array.getElem?_modify, h]
theorem frBlk_set7 {w : World} {g d k s r : Nat} {c p : Bool} {i : ByteArray} (h : FrBlk w g d c k p s r i) (d' : Nat) (c' : Bool) (k' : Nat) (p' : Bool) (s' r' : Nat) (i' : ByteArray) :
    FrBlk (((((((w.setCell ⟨g, 0, none⟩ (.int .u8 (d' : Int))).setCell ⟨g, 1, none⟩ (.bool c')).setCell ⟨g, 2, none⟩ (.int .u8 (k' : Int))).setCell ⟨g, 3, none⟩ (.bool p')).setCell ⟨g, 4, none⟩ (.int .u8 (s' : Int))).setCell ⟨g, 5, none⟩ (.int .u8 (r' : Int))).setCell ⟨g, 6, none⟩ (.string i')) g d' c' k' p' s' r' i' := by
  have h0 := blk_set h 0 (.int .u8 (d' : Int))
  have h1 := blk_set h0 1 (.bool c')
  have h2 := blk_set h1 2 (.int .u8 (k' : Int))
  have h3 := blk_set h2 3 (.bool p')
  have h4 := blk_set h3 4 (.int .u8 (s' : Int))
  have h5 := blk_set h4 5 (.int .u8 (r' : Int))
  have h6 := blk_set h5 6 (.string i')
  unfold FrBlk
  rw [h6]
  simp
theorem below_set7 {a w : World} {B g : Nat} (h : Below B a w) (hg : B ≤ g) (v0 v1 v2 v3 v4 v5 v6 : Value) :
    Below B a (((((((w.setCell ⟨g, 0, none⟩ v0).setCell ⟨g, 1, none⟩ v1).setCell ⟨g, 2, none⟩ v2).setCell ⟨g, 3, none⟩ v3).setCell ⟨g, 4, none⟩ v4).setCell ⟨g, 5, none⟩ v5).setCell ⟨g, 6, none⟩ v6) :=
  ((((((h.setCell (p := ⟨g, 0, none⟩) hg v0).setCell (p := ⟨g, 1, none⟩) hg v1).setCell (p := ⟨g, 2, none⟩) hg v2).setCell (p := ⟨g, 3, none⟩) hg v3).setCell (p := ⟨g, 4, none⟩) hg v4).setCell (p := ⟨g, 5, none⟩) hg v5).setCell (p := ⟨g, 6, none⟩) hg v6
theorem ret_frame {fn : Func} {R : Ending → World → Prop} {a : Act} {W : World} {g d k s r : Nat} {c p : Bool} {i : ByteArray} (hb : FrBlk W g d c k p s r i) (hg : a.tmps.getD 6 undef = .pointer (some ⟨g, 0, none⟩)) (hd : a.defers = [])
    (h : R (.returned (.tuple #[frV d c k p s r i, a.tmps.getD 7 undef])) W) (hf : fn.results = #[.cell 6 30, .tmp 7] := by rfl) : bodyPost Tryd.prog fn R .ret a W := by
  refine bodyPost_ret (v := .tuple #[frV d c k p s r i, a.tmps.getD 7 undef]) ?_ hd h
  obtain ⟨c0, c1, c2, c3, c4, c5, c6, f0, f1, f2, f3, f4, f5, f6⟩ := zero_cells hb
  simp at hg
  simp [results, hf, go_sem, hg, c0, c1, c2, c3, c4, c5, c6, frV]

set_option maxRecDepth 100000 in
set_option maxHeartbeats 4000000 in
theorem decode_none (s : ByteArray) (b : Bool) (n1 : Int) (w : World) (hs : s.size ≤ 100000) (hu : unst (bl s) = none) :
    Calls Tryd.prog 24 #[.string s, .bool b, .int .i64 n1] w fun e w' => e = bad 40 ∧ Below w.heap.size w w' := by
  have HU := hide (unR_none hu)
  clear hu
  go_enter Tryd.func24, Tryd.ntmps24
  go_wp2_with fail
  refine (unstuff_any s _ hs).mono ?_
  rintro e w2 ⟨rfl, hb2⟩
  rw [HU.out]
  have B0 := ((Below.refl w.heap.size w).alloc (Nat.le_refl _) _).trans (hb2.mono (by simp))
  obtain ⟨c0, c1, c2, c3, c4, c5, c6, f0, f1, f2, f3, f4, f5, f6⟩ := zero_cells (zero_blk w hb2)
  have hB := zero_blk w hb2
  clear hb2
  have b2 : Below w.heap.size w w2 := B0
  go_wp2
  refine ret_frame (frBlk_set7 hB 0 false 0 false 0 0 ⟨#[]⟩) rfl rfl ⟨rfl, below_set7 b2 (Nat.le_refl _) _ _ _ _ _ _ _⟩

end Go.Proofs.YtnnimkailajgaaaDoor
