/- The deframer's small functions: the walks. -/
import Derived.Test.YtnnimkailajgaaaDoorDfEnc
import Derived.Laws.EntriesVeiled
namespace Go.Proofs.YtnnimkailajgaaaDoor
open Go.RowKit
set_option linter.unusedVariables false
set_option linter.unusedSimpArgs false

/-- What the next byte does, as a value. -/
def nextF (adv : Bool) (n gd : Nat) : Value := .func (.func (if n = 0 then 13 else if n = 1 then (if adv then 15 else 14) else 21)) #[.pointer (some ⟨gd, 0, none⟩)] #[]
abbrev dfr (adv ini : Bool) (n1 : Int) (v : Value) (bad n gd : Nat) : Obj := .cells #[.bool ini, .int .i64 n1, .int .u8 (fl adv : Nat), v, .int .i64 (bad : Int), nextF adv n gd, nextF adv 1 gd] 44 (0, 0)
/-- A deframer lies in block gd and stands at x. -/
structure DefAt (adv ini : Bool) (n1 : Int) (B gd : Nat) (x : DS) (W : World) : Prop where
  ge : B ≤ gd
  row : ∃ v, W.heap[gd]? = some (dfr adv ini n1 v x.bad x.next gd) ∧ W.ownsRow B 5 1 v x.got.length (u8s x.got)
theorem DefAt.lt {adv ini : Bool} {n1 : Int} {B gd : Nat} {x : DS} {W : World} (h : DefAt adv ini n1 B gd x W) : gd < W.heap.size := by
  obtain ⟨v, h1, _⟩ := h.row
  exact (Array.getElem?_eq_some_iff.1 h1).1
theorem DefAt.below {adv ini : Bool} {n1 : Int} {B gd : Nat} {x : DS} {W W' : World} (h : DefAt adv ini n1 B gd x W) (hb : Below W.heap.size W W') : DefAt adv ini n1 B gd x W' := by
  obtain ⟨v, h1, h2⟩ := h.row
  exact ⟨h.ge, v, (hb.block gd h.lt).trans h1, own8_below h2 hb⟩
theorem DefAt.alloc {adv ini : Bool} {n1 : Int} {B gd : Nat} {x : DS} {W : World} (h : DefAt adv ini n1 B gd x W) (o : Obj) : DefAt adv ini n1 B gd x (W.alloc o) := h.below ((Below.refl _ _).alloc (Nat.le_refl _) o)
theorem DefAt.drewN {adv ini : Bool} {n1 : Int} {B gd : Nat} {x : DS} {W : World} (h : DefAt adv ini n1 B gd x W) (n : Nat) : DefAt adv ini n1 B gd x (W.drewN n) := h.below (below_drewN (Below.refl _ _) n)
theorem cells7 {w : World} {g : Nat} {a0 a1 a2 a3 a4 a5 a6 : Value} {T : TypeId} (h : w.heap[g]? = some (.cells #[a0, a1, a2, a3, a4, a5, a6] T (0, 0))) :
    w.cell? ⟨g, 0, none⟩ = some a0 ∧ w.cell? ⟨g, 1, none⟩ = some a1 ∧ w.cell? ⟨g, 2, none⟩ = some a2 ∧ w.cell? ⟨g, 3, none⟩ = some a3 ∧ w.cell? ⟨g, 4, none⟩ = some a4 ∧ w.cell? ⟨g, 5, none⟩ = some a5 ∧ w.cell? ⟨g, 6, none⟩ = some a6 ∧
    w.frozen? ⟨g, 3, none⟩ = false ∧ w.frozen? ⟨g, 4, none⟩ = false ∧ w.frozen? ⟨g, 5, none⟩ = false ∧ w.frozen? ⟨g, 2, none⟩ = false ∧ w.frozen? ⟨g, 6, none⟩ = false := by
  have k : ∀ j, w.cell? ⟨g, j, none⟩ = (#[a0, a1, a2, a3, a4, a5, a6] : Array Value)[j]? ∧ w.frozen? ⟨g, j, none⟩ = false := fun j => ⟨by simp [World.cell?, h], by simp [World.frozen?, h]⟩
  exact ⟨(k 0).1, (k 1).1, (k 2).1, (k 3).1, (k 4).1, (k 5).1, (k 6).1, (k 3).2, (k 4).2, (k 5).2, (k 2).2, (k 6).2⟩
/-- What a call on the deframer leaves as it lay: all but its block, and rows of bytes of its own. -/
structure Keeps (B gd : Nat) (W W' : World) : Prop where
  below : Below B W W'
  keep : ∀ j cs t fr, W.heap[j]? = some (.cells cs t fr) → j ≠ gd → t ≠ 5 → W'.heap[j]? = some (.cells cs t fr)
theorem Keeps.refl (B gd : Nat) (W : World) : Keeps B gd W W := ⟨Below.refl _ _, fun _ _ _ _ h _ _ => h⟩
theorem Keeps.trans {B gd : Nat} {a b c : World} (h : Keeps B gd a b) (k : Keeps B gd b c) : Keeps B gd a c := ⟨h.below.trans k.below, fun j cs t fr h1 h2 h3 => k.keep j cs t fr (h.keep j cs t fr h1 h2 h3) h2 h3⟩
theorem Keeps.ofBelow {B gd : Nat} {a b : World} (hB : B ≤ a.heap.size) (h : Below a.heap.size a b) : Keeps B gd a b := ⟨h.mono hB, fun j cs t fr h1 _ _ => (h.block j (Array.getElem?_eq_some_iff.1 h1).1).trans h1⟩
theorem Keeps.set {B gd : Nat} {a b : World} (h : Keeps B gd a b) (hB : B ≤ gd) (q : Nat) (v : Value) : Keeps B gd a (b.setCell ⟨gd, q, none⟩ v) :=
  ⟨h.below.setCell (p := ⟨gd, q, none⟩) hB v, fun j cs t fr h1 h2 h3 => by
    have := h.keep j cs t fr h1 h2 h3
    rw [← this]
    simp [World.setCell, Array.getElem?_modify]
    intro e
    exact absurd e.symm h2⟩
/-- The deframer's own cells, exchanged. -/
theorem own_set {w : World} {B n gd q : Nat} {v : Value} {xs : List Value} {o : Obj} (h : w.ownsRow B 5 1 v n xs) (hg : w.heap[gd]? = some o) (hne : ∀ cur, o ≠ .cells cur 5 (0, 0)) (u : Value) : (w.setCell ⟨gd, q, none⟩ u).ownsRow B 5 1 v n xs := by
  refine ⟨h.1, ?_⟩
  rcases h.2 with h0 | ⟨g, cap, cur, e1, e2, e3, rest⟩
  · exact .inl h0
  · refine .inr ⟨g, cap, cur, e1, e2, ?_, rest⟩
    rw [← e3]
    simp [World.setCell, Array.getElem?_modify]
    intro e
    subst e
    exact absurd (by rw [hg] at e3; injection e3) (hne cur)
theorem dfr_ne (adv ini : Bool) (n1 : Int) (v : Value) (bad n gd : Nat) : ∀ cur, dfr adv ini n1 v bad n gd ≠ .cells cur 5 (0, 0) := by
  intro cur h
  unfold dfr at h
  injection h with _ h
  exact absurd h (by decide)

theorem ret_frame45 {fn : Func} {R : Ending → World → Prop} {a : Act} {W : World} {g d k s r : Nat} {c p : Bool} {i : ByteArray} (hb : FrBlk W g d c k p s r i) (hg : a.tmps.getD 4 undef = .pointer (some ⟨g, 0, none⟩)) (hd : a.defers = [])
    (h : R (.returned (.tuple #[frV d c k p s r i, a.tmps.getD 5 undef])) W) (hf : fn.results = #[.cell 4 30, .tmp 5] := by rfl) : bodyPost Tryd.prog fn R .ret a W := by
  refine bodyPost_ret (v := .tuple #[frV d c k p s r i, a.tmps.getD 5 undef]) ?_ hd h
  obtain ⟨c0, c1, c2, c3, c4, c5, c6, f0, f1, f2, f3, f4, f5, f6⟩ := zero_cells hb
  simp at hg
  simp [results, hf, go_sem, hg, c0, c1, c2, c3, c4, c5, c6, frV]

set_option maxRecDepth 100000 in
set_option maxHeartbeats 2000000 in
theorem begin_any (adv ini : Bool) (n1 : Int) (B gd : Nat) (x : DS) (w : World) (h : DefAt adv ini n1 B gd x w) :
    Calls Tryd.prog 18 #[.pointer (some ⟨gd, 0, none⟩)] w fun e w' => e = .returned (.tuple #[]) ∧ DefAt adv ini n1 B gd ⟨1, [], x.bad⟩ w' ∧ Keeps B gd w w' := by
  obtain ⟨v, hblk, hown⟩ := h.row
  have D' : DefAt adv ini n1 B gd ⟨1, [], x.bad⟩ ((w.setCell ⟨gd, 3, none⟩ (.slice none 0 0)).setCell ⟨gd, 5, none⟩ (nextF adv 1 gd)) := by
    refine ⟨h.ge, .slice none 0 0, ?_, World.ownsRow_nil _ _ _ _⟩
    have := blk_set (blk_set hblk 3 (.slice none 0 0)) 5 (nextF adv 1 gd)
    exact this
  have K : Keeps B gd w ((w.setCell ⟨gd, 3, none⟩ (.slice none 0 0)).setCell ⟨gd, 5, none⟩ (nextF adv 1 gd)) := ((Keeps.refl B gd w).set h.ge _ _).set h.ge _ _
  obtain ⟨c0, c1, c2, c3, c4, c5, c6, f3, f4, f5, _⟩ := cells7 hblk
  obtain ⟨K1, hK1⟩ : ∃ K1, nextF adv 1 gd = .func (.func K1) #[.pointer (some ⟨gd, 0, none⟩)] #[] := ⟨_, rfl⟩
  rw [hK1] at c6 D' K
  clear hblk hown hK1 h
  go_enter Tryd.func18, Tryd.ntmps18
  go_wp2
  go_end0
  exact ⟨rfl, D', K⟩

/-- The zero frame's block, whatever was laid ahead of it. -/
theorem zblk (w : World) : FrBlk (w.alloc (.cells #[.int .u8 0, .bool false, .int .u8 0, .bool false, .int .u8 0, .int .u8 0, .string ⟨#[]⟩] 30)) w.heap.size 0 false 0 false 0 0 ⟨#[]⟩ := World.alloc_heap_new w _
theorem Keeps.blk {B gd : Nat} {a b : World} {g d k s r : Nat} {c p : Bool} {i : ByteArray} (h : Keeps B gd a b) (hb : FrBlk a g d c k p s r i) (hg : g ≠ gd) : FrBlk b g d c k p s r i := h.keep g _ _ _ hb hg (by decide)

/-- A result's block, written: the deframer stands as it stood. -/
theorem DefAt.put {adv ini : Bool} {n1 : Int} {B gd g q : Nat} {x : DS} {W : World} {v : Value} {cs : Array Value} (h : DefAt adv ini n1 B gd x W) (hz : W.heap[g]? = some (.cells cs 30 (0, 0))) (hg : gd ≠ g) : DefAt adv ini n1 B gd x (W.setCell ⟨g, q, none⟩ v) := by
  obtain ⟨u, h1, h2⟩ := h.row
  refine ⟨h.ge, u, ?_, own_set h2 hz (fun cur e => by injection e with _ e; exact absurd e (by decide)) v⟩
  rw [← h1]
  simp [World.setCell, Array.getElem?_modify]
  intro e
  exact absurd e.symm hg
theorem DefAt.set7 {adv ini : Bool} {n1 : Int} {B gd g : Nat} {x : DS} {W : World} {cs : Array Value} (h : DefAt adv ini n1 B gd x W) (hz : W.heap[g]? = some (.cells cs 30 (0, 0))) (hg : gd ≠ g) (v0 v1 v2 v3 v4 v5 v6 : Value) :
    DefAt adv ini n1 B gd x (((((((W.setCell ⟨g, 0, none⟩ v0).setCell ⟨g, 1, none⟩ v1).setCell ⟨g, 2, none⟩ v2).setCell ⟨g, 3, none⟩ v3).setCell ⟨g, 4, none⟩ v4).setCell ⟨g, 5, none⟩ v5).setCell ⟨g, 6, none⟩ v6) := by
  have z1 := blk_set hz 0 v0
  have z2 := blk_set z1 1 v1
  have z3 := blk_set z2 2 v2
  have z4 := blk_set z3 3 v3
  have z5 := blk_set z4 4 v4
  have z6 := blk_set z5 5 v5
  exact ((((((h.put hz hg).put z1 hg).put z2 hg).put z3 hg).put z4 hg).put z5 hg).put z6 hg
theorem Keeps.put {B gd g : Nat} {a b : World} (h : Keeps B gd a b) (hB : B ≤ g) (hg : a.heap.size ≤ g) (q : Nat) (v : Value) : Keeps B gd a (b.setCell ⟨g, q, none⟩ v) :=
  ⟨h.below.setCell (p := ⟨g, q, none⟩) hB v, fun j cs t fr h1 h2 h3 => by
    have hj := (Array.getElem?_eq_some_iff.1 h1).1
    have := h.keep j cs t fr h1 h2 h3
    rw [← this]
    simp [World.setCell, Array.getElem?_modify]
    intro e
    omega⟩
theorem Keeps.set7 {B gd g : Nat} {a b : World} (h : Keeps B gd a b) (hB : B ≤ g) (hg : a.heap.size ≤ g) (v0 v1 v2 v3 v4 v5 v6 : Value) :
    Keeps B gd a (((((((b.setCell ⟨g, 0, none⟩ v0).setCell ⟨g, 1, none⟩ v1).setCell ⟨g, 2, none⟩ v2).setCell ⟨g, 3, none⟩ v3).setCell ⟨g, 4, none⟩ v4).setCell ⟨g, 5, none⟩ v5).setCell ⟨g, 6, none⟩ v6) :=
  ((((((h.put hB hg 0 v0).put hB hg 1 v1).put hB hg 2 v2).put hB hg 3 v3).put hB hg 4 v4).put hB hg 5 v5).put hB hg 6 v6
set_option maxRecDepth 100000 in
set_option maxHeartbeats 2000000 in
theorem lost_any (adv ini : Bool) (n1 : Int) (B gd : Nat) (x y : DS) (b : Nat) (w : World) (hb : b ≤ 255) (h : DefAt adv ini n1 B gd x w) (hy : (if b = fl adv then ⟨1, [], x.bad⟩ else x) = y) :
    Calls Tryd.prog 13 #[.pointer (some ⟨gd, 0, none⟩), .int .u8 (b : Int)] w fun e w' => e = .returned (.tuple #[zf.v, .bool false]) ∧ DefAt adv ini n1 B gd y w' ∧ Keeps B gd w w' := by
  have HY := hide hy
  clear hy
  have hfl := fl_lt adv
  have hlt := h.lt
  have hB : B ≤ w.heap.size := Nat.le_trans h.ge (Nat.le_of_lt hlt)
  have K0 : Keeps B gd w (w.alloc (.cells #[.int .u8 0, .bool false, .int .u8 0, .bool false, .int .u8 0, .int .u8 0, .string ⟨#[]⟩] 30)) := Keeps.ofBelow hB ((Below.refl _ _).alloc (Nat.le_refl _) _)
  have D0 := h.alloc (.cells #[.int .u8 0, .bool false, .int .u8 0, .bool false, .int .u8 0, .int .u8 0, .string ⟨#[]⟩] 30)
  have Z0 := zblk w
  obtain ⟨v, hblk, hown⟩ := D0.row
  obtain ⟨c0, c1, c2, c3, c4, c5, c6, _⟩ := cells7 hblk
  go_enter Tryd.func13, Tryd.ntmps13
  go_upto_region 1 with (fail)
  generalize w.alloc (.cells #[.int .u8 0, .bool false, .int .u8 0, .bool false, .int .u8 0, .int .u8 0, .string ⟨#[]⟩] 30) = w1 at *
  clear hblk hown
  by_cases he : b = fl adv
  · rw [← he] at c2
    go_wp2_with fail
    refine (begin_any adv ini n1 B gd x _ D0).mono ?_
    rintro e w2 ⟨rfl, D2, K2⟩
    have Z2 := K2.blk Z0 (Nat.ne_of_gt hlt)
    obtain ⟨z0, z1, z2, z3, z4, z5, z6, y0, y1, y2, y3, y4, y5, y6⟩ := zero_cells Z2
    go_wp2
    have hyy : y = ⟨1, [], x.bad⟩ := by rw [← HY.out, if_pos he]
    rw [hyy]
    exact ret_frame45 (frBlk_set7 Z2 0 false 0 false 0 0 ⟨#[]⟩) rfl rfl ⟨rfl, D2.set7 Z2 (Nat.ne_of_lt hlt) _ _ _ _ _ _ _, (K0.trans K2).set7 hB (Nat.le_refl _) _ _ _ _ _ _ _⟩
  · have hbe : ((b : Int) == ((fl adv : Nat) : Int)) = false := by rw [beq_eq_false_iff_ne]; omega
    obtain ⟨z0, z1, z2, z3, z4, z5, z6, y0, y1, y2, y3, y4, y5, y6⟩ := zero_cells Z0
    go_wp2
    have hyy : y = x := by rw [← HY.out, if_neg he]
    rw [hyy]
    exact ret_frame45 (frBlk_set7 Z0 0 false 0 false 0 0 ⟨#[]⟩) rfl rfl ⟨rfl, D0.set7 Z0 (Nat.ne_of_lt hlt) _ _ _ _ _ _ _, K0.set7 hB (Nat.le_refl _) _ _ _ _ _ _ _⟩

theorem ret_frame67 {fn : Func} {R : Ending → World → Prop} {a : Act} {W : World} {g d k s r : Nat} {c p : Bool} {i : ByteArray} (hb : FrBlk W g d c k p s r i) (hg : a.tmps.getD 6 undef = .pointer (some ⟨g, 0, none⟩)) (hd : a.defers = [])
    (h : R (.returned (.tuple #[frV d c k p s r i, a.tmps.getD 7 undef])) W) (hf : fn.results = #[.cell 6 30, .tmp 7] := by rfl) : bodyPost Tryd.prog fn R .ret a W := ret_frame hb hg hd h hf

theorem told_val (x : DS) (o : Option Fr) : ((toldS x o).2.getD zf, (toldS x o).2.isSome) = (o.getD zf, o.isSome) := by
  unfold toldS
  cases o <;> rfl
set_option maxRecDepth 100000 in
set_option maxHeartbeats 2000000 in
/-- A frame that was decoded. -/
theorem told_ok (adv ini : Bool) (n1 : Int) (B gd : Nat) (x : DS) (f : Fr) (w : World) (h : DefAt adv ini n1 B gd x w) (hx : x.bad ≤ 100000) :
    Calls Tryd.prog 23 #[.pointer (some ⟨gd, 0, none⟩), f.v, .int .i64 0] w fun e w' => e = .returned (.tuple #[f.v, .bool true]) ∧ DefAt adv ini n1 B gd x w' ∧ Keeps B gd w w' := by
  obtain ⟨d, c, k, p, s, r, i⟩ := f
  unfold Fr.v frV
  have hlt := h.lt
  have hB : B ≤ w.heap.size := Nat.le_trans h.ge (Nat.le_of_lt hlt)
  have K0 : Keeps B gd w ((w.alloc (.cells #[.int .u8 (d : Int), .bool c, .int .u8 (k : Int), .bool p, .int .u8 (s : Int), .int .u8 (r : Int), .string i] 30)).alloc (.cells #[.int .u8 0, .bool false, .int .u8 0, .bool false, .int .u8 0, .int .u8 0, .string ⟨#[]⟩] 30)) :=
    Keeps.ofBelow hB (((Below.refl _ _).alloc (Nat.le_refl _) _).alloc (by simp) _)
  have D0 := (h.alloc (.cells #[.int .u8 (d : Int), .bool c, .int .u8 (k : Int), .bool p, .int .u8 (s : Int), .int .u8 (r : Int), .string i] 30)).alloc (.cells #[.int .u8 0, .bool false, .int .u8 0, .bool false, .int .u8 0, .int .u8 0, .string ⟨#[]⟩] 30)
  have F0 : FrBlk ((w.alloc (.cells #[.int .u8 (d : Int), .bool c, .int .u8 (k : Int), .bool p, .int .u8 (s : Int), .int .u8 (r : Int), .string i] 30)).alloc (.cells #[.int .u8 0, .bool false, .int .u8 0, .bool false, .int .u8 0, .int .u8 0, .string ⟨#[]⟩] 30)) w.heap.size d c k p s r i := (Below.heap_alloc _ _ _ (by simp)).trans (World.alloc_heap_new w _)
  have Z0 := zblk (w.alloc (.cells #[.int .u8 (d : Int), .bool c, .int .u8 (k : Int), .bool p, .int .u8 (s : Int), .int .u8 (r : Int), .string i] 30))
  rw [World.size_alloc] at Z0
  go_enter Tryd.func23, Tryd.ntmps23
  go_upto_region 1 with (fail)
  generalize ((w.alloc (.cells #[.int .u8 (d : Int), .bool c, .int .u8 (k : Int), .bool p, .int .u8 (s : Int), .int .u8 (r : Int), .string i] 30)).alloc (.cells #[.int .u8 0, .bool false, .int .u8 0, .bool false, .int .u8 0, .int .u8 0, .string ⟨#[]⟩] 30)) = w1 at *
  obtain ⟨z0, z1, z2, z3, z4, z5, z6, y0, y1, y2, y3, y4, y5, y6⟩ := zero_cells Z0
  obtain ⟨c0, c1, c2, c3, c4, c5, c6, _⟩ := zero_cells F0
  go_wp2
  exact ret_frame67 (frBlk_set7 Z0 d c k p s r i) rfl rfl ⟨rfl, D0.set7 Z0 (by omega) _ _ _ _ _ _ _, K0.set7 (by omega) (by omega) _ _ _ _ _ _ _⟩
set_option maxRecDepth 100000 in
set_option maxHeartbeats 2000000 in
/-- A bad one. -/
theorem told_no (adv ini : Bool) (n1 : Int) (B gd : Nat) (x : DS) (e0 : Int) (w : World) (h : DefAt adv ini n1 B gd x w) (hx : x.bad ≤ 100000) (he : e0 ≠ 0) :
    Calls Tryd.prog 23 #[.pointer (some ⟨gd, 0, none⟩), zf.v, .int .i64 e0] w fun e w' => e = .returned (.tuple #[zf.v, .bool false]) ∧ DefAt adv ini n1 B gd ⟨x.next, x.got, x.bad + 1⟩ w' ∧ Keeps B gd w w' := by
  unfold Fr.v frV zf
  have hlt := h.lt
  have hB : B ≤ w.heap.size := Nat.le_trans h.ge (Nat.le_of_lt hlt)
  have K0 : Keeps B gd w ((w.alloc (.cells #[.int .u8 0, .bool false, .int .u8 0, .bool false, .int .u8 0, .int .u8 0, .string ⟨#[]⟩] 30)).alloc (.cells #[.int .u8 0, .bool false, .int .u8 0, .bool false, .int .u8 0, .int .u8 0, .string ⟨#[]⟩] 30)) :=
    Keeps.ofBelow hB (((Below.refl _ _).alloc (Nat.le_refl _) _).alloc (by simp) _)
  have D0 := (h.alloc (.cells #[.int .u8 0, .bool false, .int .u8 0, .bool false, .int .u8 0, .int .u8 0, .string ⟨#[]⟩] 30)).alloc (.cells #[.int .u8 0, .bool false, .int .u8 0, .bool false, .int .u8 0, .int .u8 0, .string ⟨#[]⟩] 30)
  have Z0 := zblk (w.alloc (.cells #[.int .u8 0, .bool false, .int .u8 0, .bool false, .int .u8 0, .int .u8 0, .string ⟨#[]⟩] 30))
  rw [World.size_alloc] at Z0
  have heb : (e0 != 0) = true := by rw [bne_iff_ne]; exact he
  go_enter Tryd.func23, Tryd.ntmps23
  go_upto_region 1 with (fail)
  generalize ((w.alloc (.cells #[.int .u8 0, .bool false, .int .u8 0, .bool false, .int .u8 0, .int .u8 0, .string ⟨#[]⟩] 30)).alloc (.cells #[.int .u8 0, .bool false, .int .u8 0, .bool false, .int .u8 0, .int .u8 0, .string ⟨#[]⟩] 30)) = w1 at *
  obtain ⟨v, hblk, hown⟩ := D0.row
  obtain ⟨b0, b1, b2, b3, b4, b5, b6, f3, f4, f5, _⟩ := cells7 hblk
  have D1 : DefAt adv ini n1 B gd ⟨x.next, x.got, x.bad + 1⟩ (w1.setCell ⟨gd, 4, none⟩ (.int .i64 ((x.bad : Int) + 1))) := by
    refine ⟨h.ge, v, ?_, own_set hown hblk (dfr_ne _ _ _ _ _ _ _) _⟩
    have := blk_set hblk 4 (.int .i64 ((x.bad : Int) + 1))
    exact this
  have K1 := K0.set h.ge 4 (.int .i64 ((x.bad : Int) + 1))
  have Z1 : FrBlk (w1.setCell ⟨gd, 4, none⟩ (.int .i64 ((x.bad : Int) + 1))) (w.heap.size + 1) 0 false 0 false 0 0 ⟨#[]⟩ := by
    refine Eq.trans ?_ Z0
    simp [World.setCell, Array.getElem?_modify]
    intro e
    omega
  obtain ⟨z0, z1, z2, z3, z4, z5, z6, y0, y1, y2, y3, y4, y5, y6⟩ := zero_cells Z1
  have hbd : (x.bad : Int) ≤ 100000 := by omega
  go_wp2
  exact ret_frame67 (frBlk_set7 Z1 0 false 0 false 0 0 ⟨#[]⟩) rfl rfl ⟨rfl, D1.set7 Z1 (by omega) _ _ _ _ _ _ _, K1.set7 (by omega) (by omega) _ _ _ _ _ _ _⟩
set_option maxRecDepth 100000 in
set_option maxHeartbeats 2000000 in
theorem fails_any (adv ini : Bool) (n1 : Int) (B gd : Nat) (x : DS) (b : Nat) (w : World) (hb : b ≤ 255) (h : DefAt adv ini n1 B gd x w) (hx : x.bad ≤ 100000) :
    Calls Tryd.prog 20 #[.pointer (some ⟨gd, 0, none⟩), .int .u8 (b : Int)] w fun e w' => e = .returned (.tuple #[zf.v, .bool false]) ∧ DefAt adv ini n1 B gd (failsS adv x b) w' ∧ Keeps B gd w w' := by
  have hlt := h.lt
  have hB : B ≤ w.heap.size := Nat.le_trans h.ge (Nat.le_of_lt hlt)
  have K0 : Keeps B gd w (w.alloc (.cells #[.int .u8 0, .bool false, .int .u8 0, .bool false, .int .u8 0, .int .u8 0, .string ⟨#[]⟩] 30)) := Keeps.ofBelow hB ((Below.refl _ _).alloc (Nat.le_refl _) _)
  have D0 := h.alloc (.cells #[.int .u8 0, .bool false, .int .u8 0, .bool false, .int .u8 0, .int .u8 0, .string ⟨#[]⟩] 30)
  have Z0 := zblk w
  obtain ⟨v, hblk, hown⟩ := D0.row
  obtain ⟨c0, c1, c2, c3, c4, c5, c6, f3, f4, f5, _⟩ := cells7 hblk
  have hbd : (x.bad : Int) ≤ 100000 := by omega
  obtain ⟨F, hF⟩ : ∃ F, nextF adv 0 gd = F := ⟨_, rfl⟩
  have D1 : DefAt adv ini n1 B gd ⟨0, [], x.bad + 1⟩ ((((w.alloc (.cells #[.int .u8 0, .bool false, .int .u8 0, .bool false, .int .u8 0, .int .u8 0, .string ⟨#[]⟩] 30)).setCell ⟨gd, 4, none⟩ (.int .i64 ((x.bad : Int) + 1))).setCell ⟨gd, 3, none⟩ (.slice none 0 0)).setCell ⟨gd, 5, none⟩ (nextF adv 0 gd)) := by
    refine ⟨h.ge, .slice none 0 0, ?_, World.ownsRow_nil _ _ _ _⟩
    exact blk_set (blk_set (blk_set hblk 4 (.int .i64 ((x.bad : Int) + 1))) 3 (.slice none 0 0)) 5 (nextF adv 0 gd)
  have K1 := ((K0.set h.ge 4 (.int .i64 ((x.bad : Int) + 1))).set h.ge 3 (.slice none 0 0)).set h.ge 5 (nextF adv 0 gd)
  have hz : ∀ (W : World) (q : Nat) (u : Value), FrBlk W w.heap.size 0 false 0 false 0 0 ⟨#[]⟩ → FrBlk (W.setCell ⟨gd, q, none⟩ u) w.heap.size 0 false 0 false 0 0 ⟨#[]⟩ := fun W q u hz => by
    refine Eq.trans ?_ hz
    simp [World.setCell, Array.getElem?_modify]
    intro e
    omega
  have Z1 := hz _ 5 (nextF adv 0 gd) (hz _ 3 (.slice none 0 0) (hz _ 4 (.int .i64 ((x.bad : Int) + 1)) Z0))
  clear hz hblk hown
  unfold nextF at D1 K1 Z1
  rw [if_pos rfl] at D1 K1 Z1
  go_enter Tryd.func20, Tryd.ntmps20
  go_upto_region 1 with (fail)
  generalize w.alloc (.cells #[.int .u8 0, .bool false, .int .u8 0, .bool false, .int .u8 0, .int .u8 0, .string ⟨#[]⟩] 30) = w1 at *
  go_wp2_with fail
  have HL := lost_any adv ini n1 B gd ⟨0, [], x.bad + 1⟩ (failsS adv x b) b _ hb D1 (by unfold failsS; split <;> rfl)
  refine HL.mono ?_
  rintro e w2 ⟨rfl, D2, K2⟩
  have Z2 := K2.blk Z1 (Nat.ne_of_gt hlt)
  obtain ⟨z0, z1, z2, z3, z4, z5, z6, y0, y1, y2, y3, y4, y5, y6⟩ := zero_cells Z2
  unfold Fr.v frV zf
  clear HL D1 Z1 c0 c1 c2 c3 c4 c5 c6 f3 f4 f5
  go_wp2
  exact ret_frame45 (frBlk_set7 Z2 0 false 0 false 0 0 ⟨#[]⟩) rfl rfl ⟨rfl, D2.set7 Z2 (Nat.ne_of_lt hlt) _ _ _ _ _ _ _, (K1.trans K2).set7 hB (Nat.le_refl _) _ _ _ _ _ _ _⟩
end Go.Proofs.YtnnimkailajgaaaDoor
