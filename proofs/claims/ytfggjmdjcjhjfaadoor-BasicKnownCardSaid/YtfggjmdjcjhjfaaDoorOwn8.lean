/- What chapter 04 takes over of my texts of chapter 05: rows of octets of the call's own, octets of a text, a frame's block. Copied by a program from XStuff, XStuff2, XAdvMay, XAdvEnc, XAdvDec, XAdvDec2, XAdvBackPlain (which name functions that chapter 04 lacks). -/
import Derived.Maps.AppendAt
import Derived.Deep.AppendLies
import Derived.IntWalk
import Derived.Deep.CutRange
import Derived.WalkMore
import Derived.Deep.RegionHeld3
import Derived.Deep.DeepCutAuto
import Derived.Lib.Strings
import Derived.Test.YtfggjmdjcjhjfaaDoorStuffPlain
import Derived.Test.YtfggjmdjcjhjfaaDoorFieldTests
import Derived.Test.YtfggjmdjcjhjfaaDoorBytes
import Derived.Test.YtfggjmdjcjhjfaaDoorEa
import Derived.Test.YtfggjmdjcjhjfaaDoorFrame
namespace Go.Proofs.YtfggjmdjcjhjfaaDoor
open Go.RowKit
set_option linter.unusedVariables false
set_option linter.unusedSimpArgs false

/-- Octets as cells. -/
def u8s (l : List Nat) : List Value := l.map fun (x : Nat) => Value.int .u8 (x : Int)
theorem u8s_length (l : List Nat) : (u8s l).length = l.length := by simp [u8s]
theorem u8s_append (l m : List Nat) : u8s (l ++ m) = u8s l ++ u8s m := by simp [u8s]
theorem own8_form {w : World} {B n : Nat} {v : Value} {xs : List Value} (h : w.ownsRow B 5 1 v n xs) : ∃ a c, v = .slice a n c := by
  rcases h.2 with ⟨rfl, h0⟩ | ⟨g, cap, cur, rfl, _⟩
  · exact ⟨none, 0, by rw [h0]⟩
  · exact ⟨_, _, rfl⟩
theorem own8_base {w : World} {B C : Nat} {e : TypeId} {z n : Nat} {v : Value} {xs : List Value} (h : w.ownsRow B e z v n xs) (hC : C ≤ B) : w.ownsRow C e z v n xs := by
  refine ⟨h.1, ?_⟩
  rcases h.2 with h0 | ⟨g, cap, cur, e1, e2, rest⟩
  · exact .inl h0
  · exact .inr ⟨g, cap, cur, e1, Nat.le_trans hC e2, rest⟩
theorem own8_below {w w' : World} {B : Nat} {e : TypeId} {v : Value} {n : Nat} {xs : List Value} (h : w.ownsRow B e 1 v n xs) (hb : Below w.heap.size w w') : w'.ownsRow B e 1 v n xs := by
  refine ⟨h.1, ?_⟩
  rcases h.2 with h0 | ⟨g, cap, cur, e1, e2, e3, rest⟩
  · exact .inl h0
  · exact .inr ⟨g, cap, cur, e1, e2, (hb.block g (Array.getElem?_eq_some_iff.1 e3).1).trans e3, rest⟩
/-- Whatever a row of the call's own, from B on, was turned by leaves what lay below B. -/
theorem own8_grown {w w1 : World} {B : Nat} {e : TypeId} {v : Value} {n : Nat} {xs : List Value} {o : Obj} (h : w.ownsRow B e 1 v n xs) (hB : B ≤ w.heap.size) (hg : (w.alloc o).grownBy w1 v.ownBlock) : Below B w w1 := by
  refine ((Below.refl B w).alloc hB o).grown hg (by simp; omega) fun j ej => ?_
  rcases h.2 with ⟨rfl, _⟩ | ⟨g, cap, cur, rfl, hb, _, _⟩
  · simp [Value.ownBlock] at ej
  · obtain rfl : g = j := by simpa [Value.ownBlock] using ej
    exact hb
/-- 'string(b)' of a row of the call's own. -/
theorem run_own {w : World} {B n : Nat} {v : Value} {l : List Nat} (h : w.ownsRow B 5 1 v n (u8s l)) (hl : Bytes l) :
    (convert 34 9 v).run Tryd.prog w = .ok (.string (st l)) w := by
  have hn : n = l.length := by have := h.1; rw [u8s_length] at this; omega
  rcases h.2 with ⟨rfl, h0⟩ | ⟨g, cap, cur, rfl, _⟩
  · have : l = [] := List.eq_nil_of_length_eq_zero (by omega)
    subst this
    rw [run_convert_bytes_nil w 34 5 Tryd.underlying34 Tryd.underlying5 0 0 9 Tryd.underlying9]
    rfl
  · rw [run_convert_bytes_arg w 34 5 Tryd.underlying34 Tryd.underlying5 g 0 n cap (l.map fun (x : Nat) => (x : Int)) (by simp [hn]) (fun i hi => ?_) 9 Tryd.underlying9]
    · congr 2
      apply ByteArray.ext
      simp [strOfNums, st]
    · rw [Nat.zero_add, h.cellAt i (by omega)]
      have : i < l.length := by omega
      simp [u8s, this]
theorem bytes_getD {l : List Nat} (h : Bytes l) (j : Nat) : l.getD j 0 < 256 := by
  by_cases hj : j < l.length
  · simp only [List.getD, List.getElem?_eq_getElem hj, Option.getD_some]; exact h _ (List.getElem_mem hj)
  · simp only [List.getD, List.getElem?_eq_none (Nat.le_of_not_lt hj), Option.getD_none]; omega
theorem take_succ_getD (l : List Nat) (j : Nat) (h : j < l.length) : l.take (j + 1) = l.take j ++ [l.getD j 0] := by
  rw [List.take_succ_eq_append_getElem h]; simp only [List.getD, List.getElem?_eq_getElem h, Option.getD_some]
theorem bl_getD (s : ByteArray) (j : Nat) (h : j < s.size) : (bl s).getD j 0 = s[j].toNat := by
  simp only [List.getD, bl, List.getElem?_map]
  rw [List.getElem?_eq_getElem (by simpa using h)]
  rfl
theorem bl_drop (s : ByteArray) (k : Nat) (h : k < s.size) : (bl s).drop k = s[k].toNat :: (bl s).drop (k + 1) := by
  have h1 : k < (bl s).length := by rw [bl_length]; exact h
  rw [List.drop_eq_getElem_cons h1]
  congr 1
  have := bl_getD s k h
  simp only [List.getD, List.getElem?_eq_getElem h1, Option.getD_some] at this
  exact this
def room (n1 : Int) : Int := max 0 (min n1 128)
theorem empty_of (s : ByteArray) (h : s.size = 0) : s = ⟨#[]⟩ := by
  apply ByteArray.ext
  exact Array.eq_empty_of_size_eq_zero (by have : s.size = s.data.size := rfl; omega)
theorem ne_empty (s : ByteArray) (h0 : 0 < s.size) : ¬ s.toList = [] ∧ s.toList.isEmpty = false := by
  have hne : ¬ s.toList = [] := fun e => by
    rw [Lib.toList_data] at e
    have := Lib.size_eq s
    rw [e] at this
    simp only [List.length_nil] at this
    omega
  exact ⟨hne, by cases hl : s.toList with | nil => exact absurd hl hne | cons _ _ => rfl⟩
theorem fput_no (k : Nat) (p : Bool) (s r : Nat) (w : World) (hh : Octs w) (h1 : k ≤ 255) (h2 : s ≤ 255) (h3 : r ≤ 255) (h : putOk k s r = false) :
    Calls Tryd.prog 19 #[.int .u8 (k : Int), .bool p, .int .u8 (s : Int), .int .u8 (r : Int)] w fun e w' => e = .returned (.tuple #[.int .u8 0, .int .i64 2]) ∧ w = w' := by
  have := fput_any k p s r w hh h1 h2 h3
  unfold putR putV putE at this
  rw [h] at this
  exact this
theorem fput_yes (k : Nat) (p : Bool) (s r : Nat) (w : World) (hh : Octs w) (h1 : k ≤ 255) (h2 : s ≤ 255) (h3 : r ≤ 255) (h : putOk k s r = true) :
    Calls Tryd.prog 19 #[.int .u8 (k : Int), .bool p, .int .u8 (s : Int), .int .u8 (r : Int)] w fun e w' => e = .returned (.tuple #[.int .u8 (putN k p s r : Nat), .int .i64 0]) ∧ w = w' := by
  have := fput_any k p s r w hh h1 h2 h3
  rw [putR_ok p h] at this
  exact this
theorem rput_no (k : Nat) (p : Bool) (s r : Nat) (w : World) (h1 : k ≤ 255) (h2 : s ≤ 255) (h3 : r ≤ 255) (h : putOk k s r = false) :
    Calls Tryd.prog 35 #[.int .u8 (k : Int), .bool p, .int .u8 (s : Int), .int .u8 (r : Int)] w fun e w' => e = .returned (.tuple #[.int .u8 0, .int .i64 2]) ∧ w = w' := by
  have := rput_any k p s r w h1 h2 h3
  unfold putR putV putE at this
  rw [h] at this
  exact this
theorem rput_yes (k : Nat) (p : Bool) (s r : Nat) (w : World) (h1 : k ≤ 255) (h2 : s ≤ 255) (h3 : r ≤ 255) (h : putOk k s r = true) :
    Calls Tryd.prog 35 #[.int .u8 (k : Int), .bool p, .int .u8 (s : Int), .int .u8 (r : Int)] w fun e w' => e = .returned (.tuple #[.int .u8 (putN k p s r : Nat), .int .i64 0]) ∧ w = w' := by
  have := rput_any k p s r w h1 h2 h3
  rw [putR_ok p h] at this
  exact this
theorem own_lit8 (w : World) (l : List Nat) (B : Nat) (hB : B ≤ w.heap.size) (hl : l.length ≤ 1000000 := by decide) :
    (w.alloc (.cells (u8s l).toArray 5)).ownsRow B 5 1 (.slice (some ⟨w.heap.size, 0, none⟩) l.length l.length) l.length (u8s l) := by
  have := World.ownsRow_lit (e := 5) (size := 1) w (u8s l).toArray l.length hB (by unfold maxLen; omega) (by simp [u8s])
  simpa using this
theorem run_st (b n cap : Nat) (l : List Nat) (W : World) (hn : l.length = n) (hc : ∀ i, i < n → W.cell? ⟨b, 0 + i, none⟩ = some (.int .u8 (l.getD i 0 : Nat))) :
    (convert 34 9 (.slice (some ⟨b, 0, none⟩) n cap)).run Tryd.prog W = .ok (.string (st l)) W := by
  rw [run_convert_bytes_arg W 34 5 Tryd.underlying34 Tryd.underlying5 b 0 n cap (l.map fun (x : Nat) => (x : Int)) (by simp [hn]) (fun i hi => ?_) 9 Tryd.underlying9]
  · congr 2
    apply ByteArray.ext
    simp [strOfNums, st]
  · rw [hc i hi]
    have : i < l.length := by omega
    simp [this]
theorem run_two (W : World) (x y : Nat) : (convert 34 9 (.slice (some ⟨W.heap.size, 0, none⟩) 2 2)).run Tryd.prog (W.alloc (.cells #[.int .u8 (x : Int), .int .u8 (y : Int)] 5)).drew = .ok (.string (st [x, y])) (W.alloc (.cells #[.int .u8 (x : Int), .int .u8 (y : Int)] 5)).drew := by
  refine run_st W.heap.size 2 2 [x, y] _ rfl fun i hi => ?_
  rw [Nat.zero_add]
  refine (World.cell?_alloc_new W #[.int .u8 (x : Int), .int .u8 (y : Int)] 5 i).trans ?_
  rcases (show i = 0 ∨ i = 1 by omega) with rfl | rfl <;> rfl
def frV (d : Nat) (c : Bool) (k : Nat) (p : Bool) (s r : Nat) (i : ByteArray) : Value := .agg #[.int .u8 (d : Int), .bool c, .int .u8 (k : Int), .bool p, .int .u8 (s : Int), .int .u8 (r : Int), .string i]
def bad (e : Int) : Ending := .returned (.tuple #[.agg #[.int .u8 0, .bool false, .int .u8 0, .bool false, .int .u8 0, .int .u8 0, .string ⟨#[]⟩], .int .i64 e])
/-- An octet of a text. -/
def oc (t : ByteArray) (j : Nat) : Nat := (bl t).getD j 0
/-- A frame's block, whole. -/
def FrBlk (w : World) (g : Nat) (d : Nat) (c : Bool) (k : Nat) (p : Bool) (s r : Nat) (i : ByteArray) : Prop :=
  w.heap[g]? = some (.cells #[.int .u8 (d : Int), .bool c, .int .u8 (k : Int), .bool p, .int .u8 (s : Int), .int .u8 (r : Int), .string i] 23 (0, 0))
theorem frBlk_cell {w : World} {g d k s r : Nat} {c p : Bool} {i : ByteArray} (h : FrBlk w g d c k p s r i) (j : Nat) :
    w.cell? ⟨g, j, none⟩ = (#[Value.int .u8 (d : Int), .bool c, .int .u8 (k : Int), .bool p, .int .u8 (s : Int), .int .u8 (r : Int), .string i] : Array Value)[j]? ∧ w.frozen? ⟨g, j, none⟩ = false := by
  unfold FrBlk at h
  exact ⟨by simp [World.cell?, h], by simp [World.frozen?, h]⟩
theorem zero_cells {w : World} {g d k s r : Nat} {c p : Bool} {i : ByteArray} (h : FrBlk w g d c k p s r i) :
    w.cell? ⟨g, 0, none⟩ = some (.int .u8 (d : Int)) ∧ w.cell? ⟨g, 1, none⟩ = some (.bool c) ∧ w.cell? ⟨g, 2, none⟩ = some (.int .u8 (k : Int)) ∧ w.cell? ⟨g, 3, none⟩ = some (.bool p) ∧ w.cell? ⟨g, 4, none⟩ = some (.int .u8 (s : Int)) ∧ w.cell? ⟨g, 5, none⟩ = some (.int .u8 (r : Int)) ∧ w.cell? ⟨g, 6, none⟩ = some (.string i) ∧
    w.frozen? ⟨g, 0, none⟩ = false ∧ w.frozen? ⟨g, 1, none⟩ = false ∧ w.frozen? ⟨g, 2, none⟩ = false ∧ w.frozen? ⟨g, 3, none⟩ = false ∧ w.frozen? ⟨g, 4, none⟩ = false ∧ w.frozen? ⟨g, 5, none⟩ = false ∧ w.frozen? ⟨g, 6, none⟩ = false :=
  ⟨(frBlk_cell h 0).1, (frBlk_cell h 1).1, (frBlk_cell h 2).1, (frBlk_cell h 3).1, (frBlk_cell h 4).1, (frBlk_cell h 5).1, (frBlk_cell h 6).1, (frBlk_cell h 0).2, (frBlk_cell h 1).2, (frBlk_cell h 2).2, (frBlk_cell h 3).2, (frBlk_cell h 4).2, (frBlk_cell h 5).2, (frBlk_cell h 6).2⟩
theorem blk_set {w : World} {g : Nat} {cs : Array Value} {t : TypeId} (h : w.heap[g]? = some (.cells cs t (0, 0))) (j : Nat) (u : Value) : (w.setCell ⟨g, j, none⟩ u).heap[g]? = some (.cells (cs.setIfInBounds j u) t (0, 0)) := by
  simp [World.setCell, Array.getElem?_modify, h]
theorem frBlk_set7 {w : World} {g d k s r : Nat} {c p : Bool} {i : ByteArray} (h : FrBlk w g d c k p s r i) (d' : Nat) (c' : Bool) (k' : Nat) (p' : Bool) (s' r' : Nat) (i' : ByteArray) :
    FrBlk (((((((w.setCell ⟨g, 0, none⟩ (.int .u8 (d' : Int))).setCell ⟨g, 1, none⟩ (.bool c')).setCell ⟨g, 2, none⟩ (.int .u8 (k' : Int))).setCell ⟨g, 3, none⟩ (.bool p')).setCell ⟨g, 4, none⟩ (.int .u8 (s' : Int))).setCell ⟨g, 5, none⟩ (.int .u8 (r' : Int))).setCell ⟨g, 6, none⟩ (.string i')) g d' c' k' p' s' r' i' := by
  have h0 := blk_set h 0 (.int .u8 (d' : Int))
  have h1 := blk_set h0 1 (.bool c')
  have h2 := blk_set h1 2 (.int .u8 (k' : Int))
  have h3 := blk_set h2 3 (.bool p')
  have h4 := blk_set h3 4 (.int .u8 (s' : Int))
  have h5 := blk_set h4 5 (.int .u8 (r' : Int))
  have h6 := blk_set h5 6 (.string i')
  unfold FrBlk
  rw [h6]
  simp
theorem below_set7 {a w : World} {B g : Nat} (h : Below B a w) (hg : B ≤ g) (v0 v1 v2 v3 v4 v5 v6 : Value) :
    Below B a (((((((w.setCell ⟨g, 0, none⟩ v0).setCell ⟨g, 1, none⟩ v1).setCell ⟨g, 2, none⟩ v2).setCell ⟨g, 3, none⟩ v3).setCell ⟨g, 4, none⟩ v4).setCell ⟨g, 5, none⟩ v5).setCell ⟨g, 6, none⟩ v6) :=
  ((((((h.setCell (p := ⟨g, 0, none⟩) hg v0).setCell (p := ⟨g, 1, none⟩) hg v1).setCell (p := ⟨g, 2, none⟩) hg v2).setCell (p := ⟨g, 3, none⟩) hg v3).setCell (p := ⟨g, 4, none⟩) hg v4).setCell (p := ⟨g, 5, none⟩) hg v5).setCell (p := ⟨g, 6, none⟩) hg v6
theorem oc_at (t : ByteArray) (j : Nat) (h : j < t.size) : t[j].toNat = oc t j := (bl_getD t j h).symm
theorem oc_lt (t : ByteArray) (j : Nat) : oc t j ≤ 255 := by have := bytes_getD (bl_bytes t) j; unfold oc; omega
theorem oc_front (t : ByteArray) (n j : Nat) (h : j < n) (hn : n ≤ t.size) : oc (t.extract 0 n) j = oc t j := by
  unfold oc
  rw [bl_extract]
  simp only [List.drop_zero, Nat.sub_zero, List.getD, List.getElem?_take, h, if_pos]
theorem front_size (t : ByteArray) (n : Nat) (hn : n ≤ t.size) : (t.extract 0 n).size = n := by rw [ByteArray.size_extract]; omega
theorem fget_no (c : Nat) (w : World) (hh : Octs w) (h1 : c ≤ 255) (h : gk c = 0) :
    Calls Tryd.prog 30 #[.int .u8 (c : Int)] w fun e w' => e = .returned (.tuple #[.int .u8 0, .bool false, .int .u8 0, .int .u8 0, .int .i64 30]) ∧ w = w' := by
  have := fget_any c w hh h1
  rw [getR_none h] at this
  exact this
theorem fget_yes (c : Nat) (w : World) (hh : Octs w) (h1 : c ≤ 255) (h : gk c ≠ 0) :
    Calls Tryd.prog 30 #[.int .u8 (c : Int)] w fun e w' => e = .returned (.tuple #[.int .u8 (gk c : Nat), .bool (gp c), .int .u8 (gs c : Nat), .int .u8 (gr c : Nat), .int .i64 0]) ∧ w = w' := by
  have := fget_any c w hh h1
  unfold getR ge at this
  rw [if_neg h] at this
  exact this
theorem ea_parts {d : Nat} (hd : d ≤ 63) (v : Bool) : eaA d v % 2 = 1 ∧ eaA d v / 4 = d ∧ decide (eaA d v / 2 % 2 = 1) = v := by
  unfold eaA
  rw [if_neg (by omega)]
  cases v
  · refine ⟨?_, ?_, ?_⟩
    · simp; omega
    · simp; omega
    · rw [decide_eq_false_iff_not]; simp; omega
  · refine ⟨?_, ?_, ?_⟩
    · simp; omega
    · simp; omega
    · rw [decide_eq_true_iff]; simp; omega
theorem ea_of {a : Nat} (h : a % 2 ≠ 0) (ha : a ≤ 255) : eaA (a / 4) (decide (a / 2 % 2 = 1)) = a := by
  unfold eaA
  rw [if_neg (by omega)]
  by_cases h2 : a / 2 % 2 = 1
  · rw [decide_eq_true h2, if_pos rfl]; omega
  · rw [decide_eq_false h2, if_neg (by simp)]; omega
theorem bit_twice (c b : Bool) : ((c == b) == b) = c := by cases c <;> cases b <;> rfl
theorem split3L (l : List Nat) (n : Nat) (hn : l.length = n) (h : 3 ≤ n) : l = l.getD 0 0 :: l.getD 1 0 :: ((l.drop 2).take (n - 1 - 2) ++ [l.getD (n - 1) 0]) := by
  match l, hn with
  | [], hn => simp at hn; omega
  | [a], hn => simp at hn; omega
  | a :: b :: m, hn =>
    simp only [List.length_cons] at hn
    have h1 := take_succ_getD m (m.length - 1) (by omega)
    rw [show m.length - 1 + 1 = m.length by omega, List.take_length] at h1
    have e : n - 1 - 2 = m.length - 1 := by omega
    have e2 : n - 1 = (m.length - 1) + 1 + 1 := by omega
    rw [e, e2]
    simp only [List.getD_cons_succ, List.getD_cons_zero, List.drop_succ_cons, List.drop_zero]
    rw [← h1]

end Go.Proofs.YtfggjmdjcjhjfaaDoor
