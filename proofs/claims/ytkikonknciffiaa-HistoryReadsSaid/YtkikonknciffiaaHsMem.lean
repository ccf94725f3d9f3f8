/- A judge in memory: its block, its map, its records. -/
import Derived.Test.YtkikonknciffiaaHsMap
import Derived.WalkKit
import Derived.Below
namespace Go.Proofs.Ytkikonknciffiaa
open Go.RowKit
set_option linter.unusedVariables false
set_option linter.unusedSimpArgs false

def En.v (e : En) : Value := .agg #[.int .i64 e.step, .int .u8 (e.side : Int), .int .u8 (e.kind : Int), .int .u8 (e.dlci : Int), .bool e.ends, .int .i64 e.id, .int .i64 e.n, .string e.data, .int .i64 e.err]
def enA (e : En) : Array Value := #[.int .i64 e.step, .int .u8 (e.side : Int), .int .u8 (e.kind : Int), .int .u8 (e.dlci : Int), .bool e.ends, .int .i64 e.id, .int .i64 e.n, .string e.data, .int .i64 e.err]
abbrev rcA (r : Rc) : Array Value := #[.int .i64 (r.waits 0).step, .int .u8 ((r.waits 0).side : Int), .int .u8 ((r.waits 0).kind : Int), .int .u8 ((r.waits 0).dlci : Int), .bool (r.waits 0).ends, .int .i64 (r.waits 0).id, .int .i64 (r.waits 0).n, .string (r.waits 0).data, .int .i64 (r.waits 0).err, .int .i64 (r.waits 1).step, .int .u8 ((r.waits 1).side : Int), .int .u8 ((r.waits 1).kind : Int), .int .u8 ((r.waits 1).dlci : Int), .bool (r.waits 1).ends, .int .i64 (r.waits 1).id, .int .i64 (r.waits 1).n, .string (r.waits 1).data, .int .i64 (r.waits 1).err, .int .i64 (r.waits 2).step, .int .u8 ((r.waits 2).side : Int), .int .u8 ((r.waits 2).kind : Int), .int .u8 ((r.waits 2).dlci : Int), .bool (r.waits 2).ends, .int .i64 (r.waits 2).id, .int .i64 (r.waits 2).n, .string (r.waits 2).data, .int .i64 (r.waits 2).err, .int .i64 (r.waits 3).step, .int .u8 ((r.waits 3).side : Int), .int .u8 ((r.waits 3).kind : Int), .int .u8 ((r.waits 3).dlci : Int), .bool (r.waits 3).ends, .int .i64 (r.waits 3).id, .int .i64 (r.waits 3).n, .string (r.waits 3).data, .int .i64 (r.waits 3).err, .int .i64 (r.waits 4).step, .int .u8 ((r.waits 4).side : Int), .int .u8 ((r.waits 4).kind : Int), .int .u8 ((r.waits 4).dlci : Int), .bool (r.waits 4).ends, .int .i64 (r.waits 4).id, .int .i64 (r.waits 4).n, .string (r.waits 4).data, .int .i64 (r.waits 4).err, .int .i64 (r.waits 5).step, .int .u8 ((r.waits 5).side : Int), .int .u8 ((r.waits 5).kind : Int), .int .u8 ((r.waits 5).dlci : Int), .bool (r.waits 5).ends, .int .i64 (r.waits 5).id, .int .i64 (r.waits 5).n, .string (r.waits 5).data, .int .i64 (r.waits 5).err, .bool r.opened, .bool r.over, .bool r.readOver, .string r.wrote, .int .i64 r.read]
abbrev RcBlk (w : World) (g : Nat) (r : Rc) : Prop := w.heap[g]? = some (.cells (rcA r) 67 (0, 0))
theorem rc_fields {w : World} {g : Nat} {r : Rc} (h : RcBlk w g r) : w.cell? ⟨g, 54, none⟩ = some (.bool r.opened) ∧ w.cell? ⟨g, 55, none⟩ = some (.bool r.over) ∧ w.cell? ⟨g, 56, none⟩ = some (.bool r.readOver) ∧ w.cell? ⟨g, 57, none⟩ = some (.string r.wrote) ∧ w.cell? ⟨g, 58, none⟩ = some (.int .i64 r.read) ∧
    (∀ q, w.frozen? ⟨g, q, none⟩ = false) := by
  have hc : ∀ q, w.cell? ⟨g, q, none⟩ = (rcA r)[q]? := fun q => by simp only [World.cell?, h]; rfl
  exact ⟨hc 54, hc 55, hc 56, hc 57, hc 58, fun q => by simp [World.frozen?, h]⟩
theorem rc_wait {w : World} {g : Nat} {r : Rc} (h : RcBlk w g r) (k : Nat) (hk : k ≤ 5) : w.cell? ⟨g, k * 9, none⟩ = some (.int .i64 (r.waits k).step) ∧ w.cell? ⟨g, k * 9 + 1, none⟩ = some (.int .u8 ((r.waits k).side : Int)) ∧ w.cell? ⟨g, k * 9 + 2, none⟩ = some (.int .u8 ((r.waits k).kind : Int)) ∧ w.cell? ⟨g, k * 9 + 3, none⟩ = some (.int .u8 ((r.waits k).dlci : Int)) ∧ w.cell? ⟨g, k * 9 + 4, none⟩ = some (.bool (r.waits k).ends) ∧ w.cell? ⟨g, k * 9 + 5, none⟩ = some (.int .i64 (r.waits k).id) ∧ w.cell? ⟨g, k * 9 + 6, none⟩ = some (.int .i64 (r.waits k).n) ∧ w.cell? ⟨g, k * 9 + 7, none⟩ = some (.string (r.waits k).data) ∧ w.cell? ⟨g, k * 9 + 8, none⟩ = some (.int .i64 (r.waits k).err) := by
  have hc : ∀ q, w.cell? ⟨g, q, none⟩ = (rcA r)[q]? := fun q => by simp only [World.cell?, h]; rfl
  match k, hk with
  | 0, _ => exact ⟨hc (0 * 9), hc (0 * 9 + 1), hc (0 * 9 + 2), hc (0 * 9 + 3), hc (0 * 9 + 4), hc (0 * 9 + 5), hc (0 * 9 + 6), hc (0 * 9 + 7), hc (0 * 9 + 8)⟩
  | 1, _ => exact ⟨hc (1 * 9), hc (1 * 9 + 1), hc (1 * 9 + 2), hc (1 * 9 + 3), hc (1 * 9 + 4), hc (1 * 9 + 5), hc (1 * 9 + 6), hc (1 * 9 + 7), hc (1 * 9 + 8)⟩
  | 2, _ => exact ⟨hc (2 * 9), hc (2 * 9 + 1), hc (2 * 9 + 2), hc (2 * 9 + 3), hc (2 * 9 + 4), hc (2 * 9 + 5), hc (2 * 9 + 6), hc (2 * 9 + 7), hc (2 * 9 + 8)⟩
  | 3, _ => exact ⟨hc (3 * 9), hc (3 * 9 + 1), hc (3 * 9 + 2), hc (3 * 9 + 3), hc (3 * 9 + 4), hc (3 * 9 + 5), hc (3 * 9 + 6), hc (3 * 9 + 7), hc (3 * 9 + 8)⟩
  | 4, _ => exact ⟨hc (4 * 9), hc (4 * 9 + 1), hc (4 * 9 + 2), hc (4 * 9 + 3), hc (4 * 9 + 4), hc (4 * 9 + 5), hc (4 * 9 + 6), hc (4 * 9 + 7), hc (4 * 9 + 8)⟩
  | 5, _ => exact ⟨hc (5 * 9), hc (5 * 9 + 1), hc (5 * 9 + 2), hc (5 * 9 + 3), hc (5 * 9 + 4), hc (5 * 9 + 5), hc (5 * 9 + 6), hc (5 * 9 + 7), hc (5 * 9 + 8)⟩
/-- Its map's entries: places and their records' blocks. -/
structure Recs (B : Nat) (js : JS) (L : List (Nat × Nat × Nat)) (W : World) : Prop where
  blk : ∀ x ∈ L, B ≤ x.2.2 ∧ RcBlk W x.2.2 (js.recs x.1 x.2.1)
  keys : ∀ s d g g', (s, d, g) ∈ L → (s, d, g') ∈ L → g = g'
  apart : ∀ s d s' d' g, (s, d, g) ∈ L → (s', d', g) ∈ L → s = s' ∧ d = d'
  rest : ∀ s d, findR s d L = none → js.recs s d = zR
structure JAt (B gj : Nat) (js : JS) (L : List (Nat × Nat × Nat)) (W : World) : Prop where
  ge : B ≤ gj
  row : ∃ gm, B ≤ gm ∧ W.heap[gj]? = some (.cells #[.int .i64 js.last, .bool js.some, .map (some gm)] 50 (0, 0)) ∧ W.heap[gm]? = some (.map (ents L) L.length)
  recs : Recs B js L W
theorem findR_mem {s d g : Nat} : ∀ {L : List (Nat × Nat × Nat)}, findR s d L = some g → (s, d, g) ∈ L := by
  intro L
  induction L with
  | nil => intro h; cases h
  | cons x l ih =>
    intro h
    by_cases hx : x.1 = s ∧ x.2.1 = d
    · have : findR s d (x :: l) = some x.2.2 := by show (if x.1 = s ∧ x.2.1 = d then some x.2.2 else findR s d l) = _; rw [if_pos hx]
      rw [this] at h
      injection h with h
      obtain ⟨a, b, c⟩ := x
      obtain ⟨rfl, rfl⟩ := hx
      subst h
      exact List.mem_cons_self
    · rw [findR_ne l hx] at h
      exact List.mem_cons_of_mem _ (ih h)
theorem findR_none {s d : Nat} : ∀ {L : List (Nat × Nat × Nat)}, findR s d L = none → ∀ g, (s, d, g) ∉ L := by
  intro L
  induction L with
  | nil => intro _ g h; cases h
  | cons x l ih =>
    intro h g hm
    by_cases hx : x.1 = s ∧ x.2.1 = d
    · have : findR s d (x :: l) = some x.2.2 := by show (if x.1 = s ∧ x.2.1 = d then some x.2.2 else findR s d l) = _; rw [if_pos hx]
      rw [this] at h
      cases h
    · rw [findR_ne l hx] at h
      rcases List.mem_cons.1 hm with rfl | hm
      · exact hx ⟨rfl, rfl⟩
      · exact ih h g hm
theorem findR_snoc {s d s' d' g : Nat} : ∀ {L : List (Nat × Nat × Nat)}, findR s d (L ++ [(s', d', g)]) = match findR s d L with | some x => some x | none => if s' = s ∧ d' = d then some g else none := by
  intro L
  induction L with
  | nil => rfl
  | cons x l ih =>
    by_cases hx : x.1 = s ∧ x.2.1 = d
    · have : ∀ l', findR s d (x :: l') = some x.2.2 := fun l' => by show (if x.1 = s ∧ x.2.1 = d then some x.2.2 else findR s d l') = _; rw [if_pos hx]
      rw [List.cons_append, this, this]
    · rw [List.cons_append, findR_ne _ hx, findR_ne _ hx, ih]
theorem JAt.below {B gj : Nat} {js : JS} {L : List (Nat × Nat × Nat)} {W W' : World} (h : JAt B gj js L W) (b : Below W.heap.size W W') : JAt B gj js L W' := by
  obtain ⟨gm, h1, h2, h3⟩ := h.row
  refine ⟨h.ge, ⟨gm, h1, (b.block gj (Array.getElem?_eq_some_iff.1 h2).1).trans h2, (b.block gm (Array.getElem?_eq_some_iff.1 h3).1).trans h3⟩, ⟨fun x hx => ?_, h.recs.keys, h.recs.apart, h.recs.rest⟩⟩
  obtain ⟨h4, h5⟩ := h.recs.blk x hx
  exact ⟨h4, (b.block x.2.2 (Array.getElem?_eq_some_iff.1 h5).1).trans h5⟩
theorem JAt.lt {B gj : Nat} {js : JS} {L : List (Nat × Nat × Nat)} {W : World} (h : JAt B gj js L W) : gj < W.heap.size := by
  obtain ⟨gm, h1, h2, h3⟩ := h.row
  exact (Array.getElem?_eq_some_iff.1 h2).1
theorem JAt.alloc {B gj : Nat} {js : JS} {L : List (Nat × Nat × Nat)} {W : World} (h : JAt B gj js L W) (o : Obj) : JAt B gj js L (W.alloc o) := h.below ((Below.refl _ _).alloc (Nat.le_refl _) o)
theorem JAt.drew {B gj : Nat} {js : JS} {L : List (Nat × Nat × Nat)} {W : World} (h : JAt B gj js L W) : JAt B gj js L W.drew := h.below (below_drewN (Below.refl _ _) 1)
/-- What a call on a judge leaves as it lay: rows of cells but for judges and records. -/
structure KJ (B : Nat) (W W' : World) : Prop where
  below : Below B W W'
  keep : ∀ (j : Nat) (cs : Array Value) (t : TypeId) (fr : Nat × Nat), W.heap[j]? = some (.cells cs t fr) → t ≠ 50 → t ≠ 67 → W'.heap[j]? = some (.cells cs t fr)
theorem KJ.refl (B : Nat) (W : World) : KJ B W W := ⟨Below.refl _ _, fun _ _ _ _ h _ _ => h⟩
theorem KJ.trans {B : Nat} {a b c : World} (h : KJ B a b) (k : KJ B b c) : KJ B a c := ⟨h.below.trans k.below, fun j cs t fr h1 h2 h3 => k.keep j cs t fr (h.keep j cs t fr h1 h2 h3) h2 h3⟩
theorem KJ.ofBelow {B : Nat} {a b : World} (hB : B ≤ a.heap.size) (h : Below a.heap.size a b) : KJ B a b := ⟨h.mono hB, fun j cs t fr h1 _ _ => (h.block j (Array.getElem?_eq_some_iff.1 h1).1).trans h1⟩
/-- A record's cell, exchanged. -/
theorem KJ.set {B g q : Nat} {a b : World} {r : Rc} (h : KJ B a b) (hB : B ≤ g) (hg : RcBlk b g r) (v : Value) : KJ B a (b.setCell ⟨g, q, none⟩ v) :=
  ⟨h.below.setCell (p := ⟨g, q, none⟩) hB v, fun j cs t fr h1 h2 h3 => by
    have := h.keep j cs t fr h1 h2 h3
    have hne : j ≠ g := by intro e; subst e; have e5 := this.symm.trans hg; injection e5 with e5; injection e5 with _ e5; exact h3 e5
    rw [← this]
    simp [World.setCell, Array.getElem?_modify, Ne.symm hne]⟩
/-- A record turned: its block in a world that is else the same. -/
theorem JAt.turn {B gj s d g : Nat} {js : JS} {L : List (Nat × Nat × Nat)} {W W' : World} {r : Rc} (h : JAt B gj js L W) (hm : (s, d, g) ∈ L) (hg : RcBlk W' g r) (ho : ∀ j, j ≠ g → W'.heap[j]? = W.heap[j]?) : JAt B gj (js.upd s d r) L W' := by
  obtain ⟨gm, h1, h2, h3⟩ := h.row
  obtain ⟨h4, h5⟩ := h.recs.blk _ hm
  have n1 : gj ≠ g := by intro e; subst e; have e5 := h2.symm.trans h5; injection e5 with e5; injection e5 with _ e5; exact absurd e5 (by decide)
  have n2 : gm ≠ g := by intro e; subst e; have e5 := h3.symm.trans h5; injection e5 with e5; cases e5
  refine ⟨h.ge, ⟨gm, h1, (ho gj n1).trans h2, (ho gm n2).trans h3⟩, ⟨fun x hx => ?_, h.recs.keys, h.recs.apart, fun s' d' hf => ?_⟩⟩
  · obtain ⟨a, b, c⟩ := x
    obtain ⟨h6, h7⟩ := h.recs.blk _ hx
    refine ⟨h6, ?_⟩
    by_cases hab : a = s ∧ b = d
    · obtain ⟨rfl, rfl⟩ := hab
      obtain rfl := h.recs.keys _ _ _ _ hx hm
      show RcBlk W' c ((js.upd a b r).recs a b)
      simp only [JS.upd, and_self, if_true]
      exact hg
    · have hc : c ≠ g := by intro e; subst e; exact hab (h.recs.apart _ _ _ _ _ hx hm)
      show RcBlk W' c ((js.upd s d r).recs a b)
      simp only [JS.upd]
      rw [if_neg hab]
      exact (ho c hc).trans h7
  · simp only [JS.upd]
    rw [if_neg ?_]
    · exact h.recs.rest s' d' hf
    · rintro ⟨rfl, rfl⟩
      exact findR_none hf g hm
end Go.Proofs.Ytkikonknciffiaa
