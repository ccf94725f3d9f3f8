/- The walks of advanced.put, Stuff, Unstuff, and of the reference's Stuff and Unstuff. -/
import Derived.Test.YtnnimkailajgaaaDoorStuffPlain
import Derived.Maps.AppendAt
import Derived.Deep.AppendLies
import Derived.IntWalk
namespace Go.Proofs.YtnnimkailajgaaaDoor
open Go.RowKit
set_option linter.unusedVariables false
set_option linter.unusedSimpArgs false

/-- Octets as cells. -/
def u8s (l : List Nat) : List Value := l.map fun (x : Nat) => Value.int .u8 (x : Int)
theorem u8s_length (l : List Nat) : (u8s l).length = l.length := by simp [u8s]
theorem u8s_append (l m : List Nat) : u8s (l ++ m) = u8s l ++ u8s m := by simp [u8s]
theorem own8_form {w : World} {B n : Nat} {v : Value} {xs : List Value} (h : w.ownsRow B 5 1 v n xs) : ∃ a c, v = .slice a n c := by
  rcases h.2 with ⟨rfl, h0⟩ | ⟨g, cap, cur, rfl, _⟩
  · exact ⟨none, 0, by rw [h0]⟩
  · exact ⟨_, _, rfl⟩
theorem own8_base {w : World} {B C : Nat} {e : TypeId} {z n : Nat} {v : Value} {xs : List Value} (h : w.ownsRow B e z v n xs) (hC : C ≤ B) : w.ownsRow C e z v n xs := by
  refine ⟨h.1, ?_⟩
  rcases h.2 with h0 | ⟨g, cap, cur, e1, e2, rest⟩
  · exact .inl h0
  · exact .inr ⟨g, cap, cur, e1, Nat.le_trans hC e2, rest⟩
theorem own8_below {w w' : World} {B : Nat} {e : TypeId} {v : Value} {n : Nat} {xs : List Value} (h : w.ownsRow B e 1 v n xs) (hb : Below w.heap.size w w') : w'.ownsRow B e 1 v n xs := by
  refine ⟨h.1, ?_⟩
  rcases h.2 with h0 | ⟨g, cap, cur, e1, e2, e3, rest⟩
  · exact .inl h0
  · exact .inr ⟨g, cap, cur, e1, e2, (hb.block g (Array.getElem?_eq_some_iff.1 e3).1).trans e3, rest⟩
/-- Whatever a row of the call's own, from B on, was turned by leaves what lay below B. -/
theorem own8_grown {w w1 : World} {B : Nat} {e : TypeId} {v : Value} {n : Nat} {xs : List Value} {o : Obj} (h : w.ownsRow B e 1 v n xs) (hB : B ≤ w.heap.size) (hg : (w.alloc o).grownBy w1 v.ownBlock) : Below B w w1 := by
  refine ((Below.refl B w).alloc hB o).grown hg (by simp; omega) fun j ej => ?_
  rcases h.2 with ⟨rfl, _⟩ | ⟨g, cap, cur, rfl, hb, _, _⟩
  · simp [Value.ownBlock] at ej
  · obtain rfl : g = j := by simpa [Value.ownBlock] using ej
    exact hb
/-- 'string(b)' of a row of the call's own. -/
theorem run_own {w : World} {B n : Nat} {v : Value} {l : List Nat} (h : w.ownsRow B 5 1 v n (u8s l)) (hl : Bytes l) :
    (convert 42 9 v).run Tryd.prog w = .ok (.string (st l)) w := by
  have hn : n = l.length := by have := h.1; rw [u8s_length] at this; omega
  rcases h.2 with ⟨rfl, h0⟩ | ⟨g, cap, cur, rfl, _⟩
  · have : l = [] := List.eq_nil_of_length_eq_zero (by omega)
    subst this
    rw [run_convert_bytes_nil w 42 5 Tryd.underlying42 Tryd.underlying5 0 0 9 Tryd.underlying9]
    rfl
  · rw [run_convert_bytes_arg w 42 5 Tryd.underlying42 Tryd.underlying5 g 0 n cap (l.map fun (x : Nat) => (x : Int)) (by simp [hn]) (fun i hi => ?_) 9 Tryd.underlying9]
    · congr 2
      apply ByteArray.ext
      simp [strOfNums, st]
    · rw [Nat.zero_add, h.cellAt i (by omega)]
      have : i < l.length := by omega
      simp [u8s, this]

/-- Octets that can be read where a slice points. -/
def Oct (w : World) (a : Option Addr) (l : List Nat) : Prop := 0 < l.length → ∃ g o, a = some ⟨g, o, none⟩ ∧ g < w.heap.size ∧ ∀ j, j < l.length → w.cell? ⟨g, o + j, none⟩ = some (.int .u8 (l.getD j 0 : Nat))

theorem bytes_getD {l : List Nat} (h : Bytes l) (j : Nat) : l.getD j 0 < 256 := by
  by_cases hj : j < l.length
  · simp only [List.getD, List.getElem?_eq_getElem hj, Option.getD_some]; exact h _ (List.getElem_mem hj)
  · simp only [List.getD, List.getElem?_eq_none (Nat.le_of_not_lt hj), Option.getD_none]; omega
theorem take_succ_getD (l : List Nat) (j : Nat) (h : j < l.length) : l.take (j + 1) = l.take j ++ [l.getD j 0] := by
  rw [List.take_succ_eq_append_getElem h]; simp only [List.getD, List.getElem?_eq_getElem h, Option.getD_some]
theorem xor32 : ∀ d : Nat, d < 256 → bits .xor .u8 (d : Int) 32 = ((d ^^^ 32 : Nat) : Int) ∧ d ^^^ 32 < 256 ∧ (d ^^^ 32 = 126 ↔ d = 94) ∧ (d ^^^ 32 = 125 ↔ d = 93) := by decide +kernel

/-- What put leaves. -/
def PutOk (B n : Nat) (xs l : List Nat) (w : World) (e : Ending) (w' : World) : Prop :=
  ∃ v', e = .returned v' ∧ w'.ownsRow B 5 1 v' (n + (stuff l).length) (u8s (xs ++ stuff l)) ∧ Below B w w'

/-- put, under way. -/
structure PutAt (B n : Nat) (w : World) (v0 : Value) (g : Nat) (xs u : List Nat) (v : Value) (wr : World) : Prop where
  row : wr.ownsRow B 5 1 v (n + u.length) (u8s (xs ++ u))
  below : Below B w wr
  lies : v.ownBlock = v0.ownBlock ∨ ∃ g, v.ownBlock = some g ∧ w.heap.size ≤ g
  keep : wr.heap[g]? = w.heap[g]?
  size : w.heap.size ≤ wr.heap.size
theorem PutAt.step {B n : Nat} {w : World} {v0 : Value} {g : Nat} {xs u : List Nat} {v v' : Value} {wr w1 : World} {x : Nat} {o : Obj} (h : PutAt B n w v0 g xs u v wr) (hB : B ≤ w.heap.size) (hne : v0.ownBlock ≠ some g) (hg : g < w.heap.size)
    (hown : w1.ownsRow B 5 1 v' (n + u.length + 1) (u8s (xs ++ u) ++ [.int .u8 (x : Int)])) (hgrow : (wr.alloc o).grownBy w1 v.ownBlock) (hat : v'.ownBlock = v.ownBlock ∨ v'.ownBlock = some (wr.alloc o).heap.size) :
    PutAt B n w v0 g xs (u ++ [x]) v' w1 := by
  have hs := h.size
  have hsz := hgrow.size
  rw [World.size_alloc] at hsz
  refine ⟨?_, h.below.trans (own8_grown h.row (by omega) hgrow), ?_, ?_, by omega⟩
  · rw [List.length_append, ← List.append_assoc, u8s_append]
    exact hown
  · rcases hat with e | e
    · rw [e]; exact h.lies
    · exact .inr ⟨_, e, by rw [World.size_alloc]; omega⟩
  · refine (hgrow.block g (by rw [World.size_alloc]; omega) fun e => ?_).trans ((Below.heap_alloc _ _ _ (by omega)).trans h.keep)
    rcases h.lies with e' | ⟨g', e', hg'⟩
    · exact hne (e'.symm.trans e.symm)
    · rw [e'] at e
      injection e with e
      omega

set_option maxHeartbeats 4000000 in
theorem put_some (B n m c c0 : Nat) (a0 : Option Addr) (xs : List Nat) (g o : Nat) (l : List Nat) (w : World) (hown : w.ownsRow B 5 1 (.slice a0 n c0) n (u8s xs)) (hB : B ≤ w.heap.size) (hm : l.length = m) (hl : Bytes l) (hg : g < w.heap.size)
    (hc : ∀ j, j < l.length → w.cell? ⟨g, o + j, none⟩ = some (.int .u8 (l.getD j 0 : Nat))) (hne : (Value.slice a0 n c0).ownBlock ≠ some g) (hn : n + 2 * m ≤ 1000000) :
    Calls Tryd.prog 28 #[.slice a0 n c0, .slice (some ⟨g, o, none⟩) m c] w (PutOk B n xs l w) := by
  obtain ⟨i0, hi, hz0, hz1, hz2⟩ := info_parts u8row
  have HM := hide hm
  have HC := hide hc
  have HNE := hide hne
  clear hm hc hne
  go_enter Tryd.func28, Tryd.ntmps28
  go_wp2
  go_loopw [0, 9] (fun v i wr => ∃ k : Nat, k ≤ m ∧ i = .int .i64 (k : Int) ∧ PutAt B n w (.slice a0 n c0) g xs (stuff (l.take k)) v wr) (fun _ i _ => m - (intOf i).toNat)
  case atStart => exact ⟨0, by omega, rfl, ⟨by simpa [stuff] using hown, Below.refl _ _, .inl rfl, rfl, Nat.le_refl _⟩⟩
  case round =>
    obtain ⟨k, hk, rfl, hP⟩ := hrel
    by_cases hkm : k < m
    · have hkl : k < l.length := by rw [HM.out]; exact hkm
      have hcell := (World.cell?_of_block (a := ⟨g, o + k, none⟩) hP.keep).trans (HC.out k hkl)
      have hx := bytes_getD hl k
      have htk := take_succ_getD l k hkl
      have hst : stuff (l.take (k + 1)) = stuff (l.take k) ++ stuff1 (l.getD k 0) := by rw [htk, stuff_append]; simp [stuff]
      have hlen : (stuff (l.take k)).length ≤ 2 * k := by have := (stuff_length (l.take k)).2; rw [List.length_take] at this; omega
      generalize l.getD k 0 = x at *
      generalize hU : stuff (l.take k) = u at *
      have hkm' : (k : Int) < (m : Int) := by omega
      have hrow := hP.row
      have hbs : B ≤ wr.heap.size := by have := hP.size; omega
      have HST := hide hst
      have HP := hide hP
      clear hst htk hU hP
      obtain ⟨y1, y2, _, _⟩ := xor32 x hx
      by_cases hs : x = 126 ∨ x = 125
      · have hse : stuff1 x = [125] ++ [x ^^^ 32] := by unfold stuff1; rw [if_pos hs]; rfl
        rw [hse] at HST
        generalize x ^^^ 32 = y at *
        have t1 : ((x : Int) == 126 || (x : Int) == 125) = true := by rcases hs with rfl | rfl <;> rfl
        clear t1
        rcases hs with rfl | rfl
        case' inl => replace y1 : bits .xor .u8 126 32 = (y : Int) := y1
        case' inr => replace y1 : bits .xor .u8 125 32 = (y : Int) := y1
        all_goals
          go_wp2_with (first
              | (at_builtin; refine wpList_append_own_at _ rfl (.tmp 19) (.tmp 20) 42 rfl B 5 i0 (.int .u8 0) 1 1 Tryd.underlying42 hi hz0 hz1 hz2 rfl (by decide) _ _ _ rfl (hrow.alloc _) ⟨wr.heap.size, 0, none⟩ 1 1 [.int .u8 125] rfl rfl (cell_one_new _ _ _) (by simp [Value.oneCell']) (by unfold maxLen; omega) (by omega) (by simp; omega) ?_; intro v' w1 hown' hgrow _ hat'; have P1 := HP.out.step (x := 125) hB HNE.out hg hown' hgrow hat'; have hrow1 := P1.row; have hb1 : B ≤ w1.heap.size := Nat.le_trans hB P1.size; have HP1 := hide P1; clear P1 hown' hgrow hat' hrow)
              | (at_builtin; refine wpList_append_own_at _ rfl (.tmp 24) (.tmp 26) 42 rfl B 5 i0 (.int .u8 0) 1 1 Tryd.underlying42 hi hz0 hz1 hz2 rfl (by decide) _ _ _ rfl (hrow1.alloc _) ⟨w1.heap.size, 0, none⟩ 1 1 [.int .u8 (y : Int)] rfl rfl (cell_one_new _ _ _) (by simp [Value.oneCell']) (by unfold maxLen; simp; omega) (by simp; omega) (by simp; omega) ?_; intro v'' w2 hown'' hgrow'' _ hat''))
          go_roundw
          case rel => exact ⟨k + 1, hkm, by go_num, by rw [HST.out, ← List.append_assoc]; exact HP1.out.step hB HNE.out hg hown'' hgrow'' hat''⟩
          case measure => simp [intOf]; omega
      · have hse : stuff1 x = [x] := by unfold stuff1; rw [if_neg hs]
        rw [hse] at HST
        have t1 : ((x : Int) == 126) = false := by rw [beq_eq_false_iff_ne]; omega
        have t2 : ((x : Int) == 125) = false := by rw [beq_eq_false_iff_ne]; omega
        clear hse y1 y2 hs
        go_wp2_with (at_builtin; refine wpList_append_own_at _ rfl (.tmp 24) (.tmp 26) 42 rfl B 5 i0 (.int .u8 0) 1 1 Tryd.underlying42 hi hz0 hz1 hz2 rfl (by decide) _ _ _ rfl (hrow.alloc _) ⟨wr.heap.size, 0, none⟩ 1 1 [.int .u8 (x : Int)] rfl rfl (cell_one_new _ _ _) (by simp [Value.oneCell']) (by unfold maxLen; omega) (by omega) (by simp; omega) ?_; intro v' w1 hown' hgrow _ hat')
        go_roundw
        case rel => exact ⟨k + 1, hkm, by go_num, by rw [HST.out]; exact HP.out.step hB HNE.out hg hown' hgrow hat'⟩
        case measure => simp [intOf]; omega
    · obtain rfl : k = m := by omega
      go_wp2
      go_ret
      rw [List.take_of_length_le (by rw [HM.out]; exact Nat.le_refl _)] at hP
      exact ⟨_, rfl, hP.row, hP.below⟩

end Go.Proofs.YtnnimkailajgaaaDoor
