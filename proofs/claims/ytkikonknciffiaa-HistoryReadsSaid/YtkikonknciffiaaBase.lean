/- Small lemmas of my own that the walks of this seat share: hiding a fact, worlds behind draws, what a slice of bytes holds. -/
import Derived.Test.YtkikonknciffiaaRows
import Derived.WalkKit
import Derived.WalkSpells
import Derived.WalkLawsBesides
import Derived.Deep.QuietTactic
import Derived.BigQuiet
import Derived.RegionTactic
namespace Go.Proofs.Ytkikonknciffiaa
open Go.RowKit
set_option linter.unusedVariables false
set_option linter.unusedSimpArgs false

theorem hide {p : Prop} (h : p) : Hid p := h
theorem ret_int {k : IntKind} {a b : Int} (h : a = b) : Ending.returned (.int k a) = .returned (.int k b) := by rw [h]
theorem ret_bool {a b : Bool} (h : a = b) : Ending.returned (.bool a) = .returned (.bool b) := by rw [h]
theorem below_drewN {B : Nat} {a w : World} (h : Below B a w) (n : Nat) : Below B a (w.drewN n) := ⟨h.os, h.tape, h.output, h.size, h.block⟩
theorem below_alloc {B : Nat} {a w : World} (h : Below B a w) (hB : B ≤ a.heap.size) (o : Obj) : Below B a (w.alloc o) := h.alloc (Nat.le_trans hB h.size) o
/-- Two calls, one behind the other. -/
theorem below_step {a b c : World} {B : Nat} (h : Below B a b) (hB : B ≤ a.heap.size) (k : Below b.heap.size b c) : Below B a c := h.trans (k.mono (Nat.le_trans hB h.size))

/-- A contract that turns nothing, in the form that a quiet region's laws take. -/
theorem same_of {P : Program} {f : FuncId} {args : Array Value} {w : World} {v : Value} (h : Calls P f args w fun e w' => e = .returned v ∧ w = w') :
    Calls P f args w fun e w' => e = .returned v ∧ w' = w := h.mono fun _ _ ⟨a, b⟩ => ⟨a, b.symm⟩

/-- Draws alone, the world behind them a letter. -/
def Still (w w' : World) : Prop := ∃ n, w' = w.drewN n
theorem Still.below {w w' : World} (h : Still w w') : Below w.heap.size w w' := by obtain ⟨n, rfl⟩ := h; exact below_drewN (Below.refl _ _) n
theorem Still.heap {w w' : World} (h : Still w w') : w'.heap = w.heap := by obtain ⟨n, rfl⟩ := h; rfl
theorem Below.still {B : Nat} {a w w' : World} (h : Below B a w) (k : Still w w') : Below B a w' := by obtain ⟨n, rfl⟩ := k; exact below_drewN h n

theorem u8row : (Try.prog.info? 5).map (fun i => (i.zero, i.size, i.bytes)) = some (some (.int .u8 0), 1, 1) := by kernel_rfl

/-- What a slice of bytes holds: nothing is asked of an empty one. -/
def Holds8 (w : World) (a : Option Addr) (n : Nat) (l : List Int) : Prop :=
  0 < n → ∃ g o, a = some ⟨g, o, none⟩ ∧ g < w.heap.size ∧ ∀ j, j < n → w.cell? ⟨g, o + j, none⟩ = some (.int .u8 (l.getD j 0))

theorem Holds8.alloc {w : World} {a : Option Addr} {n : Nat} {l : List Int} (h : Holds8 w a n l) (o : Obj) : Holds8 (w.alloc o) a n l := fun hp => by
  obtain ⟨g, o', rfl, hg, hc⟩ := h hp
  exact ⟨g, o', rfl, by simp; omega, fun j hj => by rw [World.cell?_alloc_lt _ _ _ hg]; exact hc j hj⟩
theorem Holds8.drewN {w : World} {a : Option Addr} {n : Nat} {l : List Int} (h : Holds8 w a n l) (m : Nat) : Holds8 (w.drewN m) a n l := h
theorem Holds8.below {w w' : World} {a : Option Addr} {n : Nat} {l : List Int} (h : Holds8 w a n l) (hb : Below w.heap.size w w') : Holds8 w' a n l := fun hp => by
  obtain ⟨g, o', rfl, hg, hc⟩ := h hp
  exact ⟨g, o', rfl, Nat.lt_of_lt_of_le hg hb.size, fun j hj => by rw [hb.cell (p := ⟨g, o' + j, none⟩) hg]; exact hc j hj⟩

theorem ownsRow_holds {w : World} {B n : Nat} {v : Value} {l : List Int} {e : TypeId} (hl : l.length = n) (h : w.ownsRow B e 1 v n (l.map (Value.int .u8))) :
    ∃ a c, v = .slice a n c ∧ Holds8 w a n l := by
  subst hl
  rcases h.2 with ⟨rfl, h0⟩ | ⟨g, cap, cur, rfl, _, hg, _⟩
  · exact ⟨none, 0, by rw [h0], fun hp => by omega⟩
  · refine ⟨some ⟨g, 0, none⟩, cap, rfl, fun _ => ⟨g, 0, rfl, (Array.getElem?_eq_some_iff.1 hg).1, fun j hj => ?_⟩⟩
    rw [Nat.zero_add, h.cellAt j (by omega)]
    simp [List.getD, hj]

/-- A slice just written out. -/
theorem holds8_new (w : World) (cs : Array Value) (e : TypeId) (n : Nat) (l : List Int) (hl : l.length = n) (h : cs = (l.map (Value.int .u8)).toArray) :
    Holds8 (w.alloc (.cells cs e)) (some ⟨w.heap.size, 0, none⟩) n l := fun _ =>
  ⟨w.heap.size, 0, rfl, by simp, fun j hj => by rw [Nat.zero_add, World.cell?_alloc_new, h]; simp [List.getD, show j < l.length by omega]⟩

end Go.Proofs.Ytkikonknciffiaa
