/- Rows of entries of the call's own; few and ref: the walks. -/
import Derived.Test.YtkikonknciffiaaHsRAcc
import Derived.Maps.AppendAt
namespace Go.Proofs.Ytkikonknciffiaa
open Go.RowKit
set_option linter.unusedVariables false
set_option linter.unusedSimpArgs false

/-- The cells of a row of entries. -/
def rowC (z : Nat → En) : Nat → List Value
  | 0 => []
  | n + 1 => rowC z n ++ (enA (z n)).toList
theorem rowC_length (z : Nat → En) : ∀ n, (rowC z n).length = n * 9
  | 0 => rfl
  | n + 1 => by rw [rowC, List.length_append, rowC_length z n]; simp [enA]; omega
theorem rowC_congr {z z' : Nat → En} : ∀ n, (∀ i, i < n → z i = z' i) → rowC z n = rowC z' n
  | 0, _ => rfl
  | n + 1, h => by rw [rowC, rowC, rowC_congr n (fun i hi => h i (by omega)), h n (by omega)]
theorem rowC_at (z : Nat → En) : ∀ n i j, i < n → j < 9 → (rowC z n)[i * 9 + j]? = (enA (z i))[j]? := by
  intro n
  induction n with
  | zero => intro i j hi; omega
  | succ n ih =>
    intro i j hi hj
    rw [rowC]
    by_cases h : i = n
    · subst h
      rw [List.getElem?_append_right (by rw [rowC_length]; omega), rowC_length, show i * 9 + j - i * 9 = j by omega, Array.getElem?_toList]
    · rw [List.getElem?_append_left (by rw [rowC_length]; omega)]
      exact ih i j (by omega) hj
/-- A row of the call's own. -/
abbrev OwnR (w : World) (B : Nat) (t : TypeId) (v : Value) (n : Nat) (z : Nat → En) : Prop := w.ownsRow B t 9 v n (rowC z n)
theorem OwnR.holds {w : World} {B : Nat} {t : TypeId} {v : Value} {n : Nat} {z : Nat → En} (h : OwnR w B t v n z) : ∃ a ca, v = .slice a n ca ∧ n ≤ ca ∧ HoldsE w a n z := by
  rcases h.2 with ⟨rfl, h0⟩ | ⟨g, cap, cur, rfl, e2, e3, e4, e5, e6, e7⟩
  · exact ⟨none, 0, by rw [h0], by omega, fun hp => by omega⟩
  · refine ⟨_, _, rfl, e4, fun hp => ⟨g, 0, rfl, (Array.getElem?_eq_some_iff.1 e3).1, fun i hi j hj => ?_⟩⟩
    have hlt : i * 9 + j < n * 9 := by omega
    have h1 : w.cell? ⟨g, 0 + (i * 9 + j), none⟩ = cur[i * 9 + j]? := by rw [Nat.zero_add]; simp only [World.cell?, e3]; rfl
    rw [h1, ← Array.getElem?_toList, ← rowC_at z n i j hi hj, ← e7, List.getElem?_take, if_pos hlt]
theorem OwnR.below {w w' : World} {B : Nat} {t : TypeId} {v : Value} {n : Nat} {z : Nat → En} (h : OwnR w B t v n z) (hb : Below w.heap.size w w') : OwnR w' B t v n z := by
  refine ⟨h.1, ?_⟩
  rcases h.2 with h0 | ⟨g, cap, cur, e1, e2, e3, rest⟩
  · exact .inl h0
  · exact .inr ⟨g, cap, cur, e1, e2, (hb.block g (Array.getElem?_eq_some_iff.1 e3).1).trans e3, rest⟩
theorem OwnR.base {w : World} {B C : Nat} {t : TypeId} {v : Value} {n : Nat} {z : Nat → En} (h : OwnR w B t v n z) (hC : C ≤ B) : OwnR w C t v n z := by
  refine ⟨h.1, ?_⟩
  rcases h.2 with h0 | ⟨g, cap, cur, e1, e2, rest⟩
  · exact .inl h0
  · exact .inr ⟨g, cap, cur, e1, Nat.le_trans hC e2, rest⟩
theorem own_grown {w w1 : World} {B z : Nat} {e : TypeId} {v : Value} {n : Nat} {xs : List Value} {o : Obj} (h : w.ownsRow B e z v n xs) (hB : B ≤ w.heap.size) (hg : (w.alloc o).grownBy w1 v.ownBlock) : Below B w w1 := by
  refine ((Below.refl B w).alloc hB o).grown hg (by simp; omega) fun j ej => ?_
  rcases h.2 with ⟨rfl, _⟩ | ⟨g, cap, cur, rfl, hb, _, _⟩
  · simp [Value.ownBlock] at ej
  · obtain rfl : g = j := by simpa [Value.ownBlock] using ej
    exact hb
theorem cells_new (w : World) (cs : List Value) (t : TypeId) : ∀ j u, cs[j]? = some u → (w.alloc (.cells cs.toArray t)).cell? ((⟨w.heap.size, 0, none⟩ : Addr).add j) = some u := by
  intro j u hj
  have h0 : (w.alloc (.cells cs.toArray t)).heap[w.heap.size]? = some (.cells cs.toArray t (0, 0)) := World.alloc_heap_new w _
  have h1 : (w.alloc (.cells cs.toArray t)).cell? ⟨w.heap.size, j, none⟩ = cs[j]? := by simp only [World.cell?, h0]; simp
  rw [Addr.add_lit, Nat.zero_add, h1, hj]
theorem one9 (e : En) : ∀ u ∈ (enA e).toList, u.oneCell' = true := by intro u hu; simp [enA] at hu; rcases hu with h | h | h | h | h | h | h | h | h <;> subst h <;> rfl
def zV : Value := .agg #[.int .i64 0, .int .u8 0, .int .u8 0, .int .u8 0, .bool false, .int .i64 0, .int .i64 0, .string ⟨#[]⟩, .int .i64 0]
theorem refrow : (Try.prog.info? 36).map (fun i => (i.zero, i.size, i.bytes)) = some (some zV, 9, 56) := by kernel_rfl
theorem wrldrow : (Try.prog.info? 38).map (fun i => (i.zero, i.size, i.bytes)) = some (some zV, 9, 56) := by kernel_rfl

def fewP (z : Nat → En) : Nat → Bool
  | 0 => true
  | n + 1 => fewP z n && decide ((z n).data.size ≤ 60)
theorem fewP_at {z : Nat → En} : ∀ n, fewP z n = true → ∀ i, i < n → (z i).data.size ≤ 60 := by
  intro n
  induction n with
  | zero => intro _ i hi; omega
  | succ n ih =>
    intro h i hi
    rw [fewP, Bool.and_eq_true, decide_eq_true_eq] at h
    by_cases e : i = n
    · subst e; exact h.2
    · exact ih h.1 i (by omega)

set_option maxRecDepth 100000 in
set_option maxHeartbeats 4000000 in
/-- few. -/
theorem few_any (a : Option Addr) (n ca : Nat) (z : Nat → En) (top : Nat) (w : World) (hE : HoldsE w a n z) (ht : top ≤ 1000) :
    Calls Try.prog 8 #[.slice a n ca, .int .i64 (top : Int)] w fun e w' => ∃ b : Bool, e = .returned (.bool b) ∧ (b = true → n ≤ top ∧ ∀ i, i < n → (z i).data.size ≤ 60) ∧ Below w.heap.size w w' := by
  have HE := hide hE
  clear hE
  by_cases h0 : top < n
  · have h0' : (top : Int) < (n : Int) := by omega
    go_enter Try.func8, Try.ntmps8
    go_wp2
    go_ret
    exact ⟨false, rfl, (fun x => (by cases x)), Below.refl _ _⟩
  · have h0' : ¬ (top : Int) < (n : Int) := by omega
    go_enter Try.func8, Try.ntmps8
    go_wp2
    go_loopw [5] (fun i wr => ∃ k : Nat, k ≤ n ∧ i = .int .i64 (k : Int) ∧ fewP z k = true ∧ Below w.heap.size w wr) (fun i _ => n - (intOf i).toNat)
    case atStart => exact ⟨0, by omega, rfl, rfl, Below.refl _ _⟩
    case round =>
      obtain ⟨k, hkn, rfl, hq, bw⟩ := hrel
      by_cases hkl : k < n
      · have hkl' : (k : Int) < (n : Int) := by omega
        obtain ⟨lb, lo, rfl, hlb, hlc⟩ := HE.out (by omega)
        have hl3 := fun j hj => (bw.cell (p := ⟨lb, _, none⟩) hlb).trans (hlc k hkl j hj)
        have hsu : fewP z (k + 1) = (fewP z k && decide ((z k).data.size ≤ 60)) := rfl
        obtain ⟨e, hze⟩ : ∃ e, z k = e := ⟨_, rfl⟩
        rw [hze] at hl3 hsu
        clear hlc
        obtain ⟨st, sd, kd, dl, en, id, nn, dt, er⟩ := e
        obtain ⟨e0, e1, e2, e3, e4, e5, e6, e7, e8⟩ := en_at hl3
        dsimp only at hsu
        have HSU := hide hsu
        clear hl3 hsu e0 e1 e2 e3 e4 e5 e6 e8 hze
        by_cases hd : 60 < dt.size
        · have hd' : (60 : Int) < (dt.size : Int) := by omega
          go_wp2
          go_ret
          exact ⟨false, rfl, (fun x => (by cases x)), bw⟩
        · have hd' : ¬ (60 : Int) < (dt.size : Int) := by omega
          go_wp2
          go_roundw
          case rel => exact ⟨k + 1, hkl, by go_num, by rw [HSU.out, hq, decide_eq_true (by omega)]; rfl, bw⟩
          case measure => simp [intOf]; omega
      · obtain rfl : k = n := by omega
        go_wp2
        go_ret
        exact ⟨true, rfl, fun _ => ⟨by omega, fewP_at _ hq⟩, bw⟩

set_option maxRecDepth 100000 in
set_option maxHeartbeats 4000000 in
/-- ref. -/
theorem ref_any (a : Option Addr) (n ca : Nat) (z : Nat → En) (w : World) (hE : HoldsE w a n z) (hn : n ≤ 1000) :
    Calls Try.prog 12 #[.slice a n ca] w fun e w' => ∃ v, e = .returned v ∧ OwnR w' w.heap.size 36 v n z ∧ Below w.heap.size w w' := by
  obtain ⟨i0, hi0, hz0, hz1, hz2⟩ := info_parts refrow
  have HE := hide hE
  clear hE
  go_enter Try.func12, Try.ntmps12
  go_wp2
  go_loopw [3, 4] (fun v i wr => ∃ k : Nat, k ≤ n ∧ i = .int .i64 (k : Int) ∧ OwnR wr w.heap.size 36 v k z ∧ Below w.heap.size w wr) (fun _ i _ => n - (intOf i).toNat)
  case atStart => exact ⟨0, by omega, rfl, World.ownsRow_nil _ _ _ _, Below.refl _ _⟩
  case round =>
    obtain ⟨k, hkn, rfl, hrow, bw⟩ := hrel
    by_cases hkl : k < n
    · have hkl' : (k : Int) < (n : Int) := by omega
      obtain ⟨lb, lo, rfl, hlb, hlc⟩ := HE.out (by omega)
      have hl3 := fun j hj => (bw.cell (p := ⟨lb, _, none⟩) hlb).trans (hlc k hkl j hj)
      have hsu : rowC z (k + 1) = rowC z k ++ (enA (z k)).toList := rfl
      have h1c := one9 (z k)
      obtain ⟨e, hze⟩ : ∃ e, z k = e := ⟨_, rfl⟩
      rw [hze] at hl3 hsu h1c
      clear hlc hze
      obtain ⟨st, sd, kd, dl, en, id, nn, dt, er⟩ := e
      obtain ⟨e0, e1, e2, e3, e4, e5, e6, e7, e8⟩ := en_at hl3
      simp only [enA] at hsu h1c
      have HSU := hide hsu
      have H1 := hide h1c
      clear hl3 hsu h1c
      have hB : w.heap.size ≤ wr.heap.size := bw.size
      have b1 := (Below.refl wr.heap.size wr).alloc (Nat.le_refl _) (.cells #[.int .i64 st, .int .u8 (sd : Int), .int .u8 (kd : Int), .int .u8 (dl : Int), .bool en, .int .i64 id, .int .i64 nn, .string dt, .int .i64 er] 38)
      have E1 : EnBlk (wr.alloc (.cells #[.int .i64 st, .int .u8 (sd : Int), .int .u8 (kd : Int), .int .u8 (dl : Int), .bool en, .int .i64 id, .int .i64 nn, .string dt, .int .i64 er] 38)) wr.heap.size st sd kd dl en id nn dt er := World.alloc_heap_new wr _
      obtain ⟨c0, c1, c2, c3, c4, c5, c6, c7, c8, _⟩ := en_cells E1
      have hrow1 := OwnR.below hrow b1
      have bw1 := below_step bw (Nat.le_refl _) b1
      have hB1 : w.heap.size ≤ (wr.alloc (.cells #[.int .i64 st, .int .u8 (sd : Int), .int .u8 (kd : Int), .int .u8 (dl : Int), .bool en, .int .i64 id, .int .i64 nn, .string dt, .int .i64 er] 38)).heap.size := bw1.size
      clear b1 E1 hrow
      go_upto_region 6 with (fail)
      generalize wr.alloc (.cells #[.int .i64 st, .int .u8 (sd : Int), .int .u8 (kd : Int), .int .u8 (dl : Int), .bool en, .int .i64 id, .int .i64 nn, .string dt, .int .i64 er] 38) = w1 at *
      clear e0 e1 e2 e3 e4 e5 e6 e7 e8
      go_wp2_with (at_builtin; refine wpList_append_own_at _ rfl (.tmp 16) (.tmp 36) 28 rfl w.heap.size 36 i0 zV 9 56 Try.underlying28 hi0 hz0 hz1 hz2 rfl (by decide) _ _ _ rfl (hrow1.alloc _) ⟨w1.heap.size, 0, none⟩ 1 1 [.int .i64 st, .int .u8 (sd : Int), .int .u8 (kd : Int), .int .u8 (dl : Int), .bool en, .int .i64 id, .int .i64 nn, .string dt, .int .i64 er] rfl rfl (cells_new _ _ _) H1.out (by unfold maxLen; omega) (by omega) (by simp; omega) ?_; intro v' w2 hown' hgrow _ hat')
      have b2 := own_grown hrow1 hB1 hgrow
      go_roundw
      case rel => exact ⟨k + 1, hkl, by go_num, by unfold OwnR; rw [HSU.out]; exact hown', bw1.trans b2⟩
      case measure => simp [intOf]; omega
    · obtain rfl : k = n := by omega
      go_wp2
      go_ret
      exact ⟨_, rfl, hrow, bw⟩
end Go.Proofs.Ytkikonknciffiaa
