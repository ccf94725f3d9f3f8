/- HistoryReads: the walk. -/
import Derived.Test.YtkikonknciffiaaHsApart
import Derived.Test.YtkikonknciffiaaBytes
namespace Go.Proofs.Ytkikonknciffiaa
open Go.RowKit
set_option linter.unusedVariables false
set_option linter.unusedSimpArgs false

/-- A row of eight texts. -/
def StrRow (w : World) (g : Nat) (f : Nat → ByteArray) : Prop := ∃ cs : Array Value, w.heap[g]? = some (.cells cs 9 (0, 0)) ∧ cs.size = 8 ∧ ∀ j, j < 8 → cs[j]? = some (.string (f j))
theorem StrRow.cell {w : World} {g : Nat} {f : Nat → ByteArray} (h : StrRow w g f) {j : Nat} (hj : j < 8) : w.cell? ⟨g, j, none⟩ = some (.string (f j)) := by
  obtain ⟨cs, h1, h2, h3⟩ := h
  have : w.cell? ⟨g, j, none⟩ = cs[j]? := by simp only [World.cell?, h1]; rfl
  rw [this, h3 j hj]
theorem StrRow.frz {w : World} {g : Nat} {f : Nat → ByteArray} (h : StrRow w g f) (j : Nat) : w.frozen? ⟨g, j, none⟩ = false := by
  obtain ⟨cs, h1, h2, h3⟩ := h
  simp [World.frozen?, h1]
theorem StrRow.lt {w : World} {g : Nat} {f : Nat → ByteArray} (h : StrRow w g f) : g < w.heap.size := by
  obtain ⟨cs, h1, h2, h3⟩ := h
  exact (Array.getElem?_eq_some_iff.1 h1).1
theorem StrRow.keep {w w' : World} {g : Nat} {f : Nat → ByteArray} (h : StrRow w g f) (e : w'.heap[g]? = w.heap[g]?) : StrRow w' g f := by
  obtain ⟨cs, h1, h2, h3⟩ := h
  exact ⟨cs, e.trans h1, h2, h3⟩
theorem StrRow.put {w : World} {g : Nat} {f f' : Nat → ByteArray} (h : StrRow w g f) {j : Nat} (s : ByteArray) (hj : j < 8) (hf : ∀ q, q < 8 → f' q = if q = j then s else f q) : StrRow (w.setCell ⟨g, j, none⟩ (.string s)) g f' := by
  obtain ⟨cs, h1, h2, h3⟩ := h
  refine ⟨_, blk_set h1 j (.string s), by rw [Array.size_setIfInBounds]; exact h2, fun q hq => ?_⟩
  rw [hf q hq]
  by_cases e : q = j
  · subst e
    rw [if_pos rfl, Array.getElem?_setIfInBounds_self_of_lt (by omega)]
  · rw [if_neg e, Array.getElem?_setIfInBounds_ne (Ne.symm e)]
    exact h3 q hq
abbrev oStr : Obj := .cells #[.string ⟨#[]⟩, .string ⟨#[]⟩, .string ⟨#[]⟩, .string ⟨#[]⟩, .string ⟨#[]⟩, .string ⟨#[]⟩, .string ⟨#[]⟩, .string ⟨#[]⟩] 9
theorem strRow_new (w : World) : StrRow (w.alloc oStr) w.heap.size (fun _ => ⟨#[]⟩) := by
  refine ⟨_, World.alloc_heap_new w oStr, rfl, fun j hj => ?_⟩
  rcases (show j = 0 ∨ j = 1 ∨ j = 2 ∨ j = 3 ∨ j = 4 ∨ j = 5 ∨ j = 6 ∨ j = 7 by omega) with rfl | rfl | rfl | rfl | rfl | rfl | rfl | rfl <;> rfl
theorem strrow : (Try.prog.info? 9).map (fun i => (i.zero, i.size, i.bytes)) = some (some (.string ⟨#[]⟩), 1, 16) := by kernel_rfl
theorem run_make_str (W : World) : (Instr.makeSlice 42 (.int .i64 8) (.int .i64 8)).run Try.prog W = .ok (.slice (some ⟨W.heap.size, 0, none⟩) 8 8) (W.alloc oStr) := by
  obtain ⟨i0, hi, hz0, hz1, hz2⟩ := info_parts strrow
  have := run_make (P := Try.prog) W 42 9 i0 (.string ⟨#[]⟩) Try.underlying42 hi hz0 .i64 .i64 8 8 (by omega) (by omega) (by rw [hz2]; omega) (by omega)
  rw [this, hz1]
  have h8 : madeCells (Value.string ⟨#[]⟩).cells (Int.toNat 8 * 1) = #[.string ⟨#[]⟩, .string ⟨#[]⟩, .string ⟨#[]⟩, .string ⟨#[]⟩, .string ⟨#[]⟩, .string ⟨#[]⟩, .string ⟨#[]⟩, .string ⟨#[]⟩] := by
    apply Array.toList_inj.1
    rw [show (Value.string ⟨#[]⟩).cells = #[Value.string ⟨#[]⟩] from rfl, toList_madeCells_one]
    rfl
  rw [h8]
  rfl
/-- What was begun to be written, and read, by the law's numbers. -/
def wrF (z : Nat → En) (n q : Nat) : ByteArray := begD z (q % 2) (q / 2) n
def rdF (z : Nat → En) (n q : Nat) : ByteArray := reaD z (1 - q % 2) (q / 2) n
theorem wrF_succ {z : Nat → En} {n q : Nat} : wrF z (n + 1) q = if (z n).kind = 3 ∧ (z n).ends = false ∧ q % 2 = (z n).side ∧ q / 2 = (z n).dlci then wrF z n q ++ (z n).data else wrF z n q := by
  unfold wrF
  rw [begD_succ]
  by_cases h : (z n).kind = 3 ∧ (z n).ends = false ∧ q % 2 = (z n).side ∧ q / 2 = (z n).dlci
  · rw [if_pos h, if_pos ⟨by unfold hereE; rw [decide_eq_true h.2.2.1.symm, decide_eq_true h.2.2.2.symm]; rfl, h.1, h.2.1⟩]
  · rw [if_neg h, if_neg, app_nil]
    rintro ⟨h1, h2, h3⟩
    simp only [hereE, Bool.and_eq_true, decide_eq_true_eq] at h1
    exact h ⟨h2, h3, h1.1.symm, h1.2.symm⟩
theorem rdF_succ {z : Nat → En} {n q : Nat} : rdF z (n + 1) q = if (z n).kind = 4 ∧ (z n).ends = true ∧ 1 - q % 2 = (z n).side ∧ q / 2 = (z n).dlci then rdF z n q ++ (z n).data else rdF z n q := by
  unfold rdF
  rw [reaD_succ]
  by_cases h : (z n).kind = 4 ∧ (z n).ends = true ∧ 1 - q % 2 = (z n).side ∧ q / 2 = (z n).dlci
  · rw [if_pos h, if_pos ⟨by unfold hereE; rw [decide_eq_true h.2.2.1.symm, decide_eq_true h.2.2.2.symm]; rfl, h.1, h.2.1⟩]
  · rw [if_neg h, if_neg, app_nil]
    rintro ⟨h1, h2, h3⟩
    simp only [hereE, Bool.and_eq_true, decide_eq_true_eq] at h1
    exact h ⟨h2, h3, h1.1.symm, h1.2.symm⟩
theorem begD_size {z : Nat → En} (s d : Nat) : ∀ n, (∀ i, i < n → (z i).data.size ≤ 60) → (begD z s d n).size ≤ 60 * n := by
  intro n
  induction n with
  | zero => intro _; exact Nat.le_refl _
  | succ n ih =>
    intro h
    have h1 := ih (fun i hi => h i (by omega))
    have h2 := h n (by omega)
    rw [begD_succ, ByteArray.size_append]
    split
    · omega
    · have : (⟨#[]⟩ : ByteArray).size = 0 := rfl
      omega
theorem reaD_size {z : Nat → En} (s d : Nat) : ∀ n, (∀ i, i < n → (z i).data.size ≤ 60) → (reaD z s d n).size ≤ 60 * n := by
  intro n
  induction n with
  | zero => intro _; exact Nat.le_refl _
  | succ n ih =>
    intro h
    have h1 := ih (fun i hi => h i (by omega))
    have h2 := h n (by omega)
    rw [reaD_succ, ByteArray.size_append]
    split
    · omega
    · have : (⟨#[]⟩ : ByteArray).size = 0 := rfl
      omega
/-- A text whose last byte has a bit turned. -/
theorem odd_ne (s : ByteArray) (M v : Nat) (hM : M < s.size) (hv : v < 256) (hne : v ≠ s[M].toNat) (L : List UInt8) (hL : L = s.data.toList.set M (UInt8.ofNat v)) : (⟨L.toArray⟩ : ByteArray) ≠ s ∧ (⟨L.toArray⟩ : ByteArray).size = s.size := by
  subst hL
  refine ⟨fun h => hne ?_, by show (s.data.toList.set M (UInt8.ofNat v)).toArray.size = s.data.size; simp⟩
  have h1 : (s.data.toList.set M (UInt8.ofNat v)) = s.data.toList := by
    have h2 := congrArg ByteArray.data h
    have h3 := congrArg Array.toList h2
    simpa using h3
  have hl : M < s.data.toList.length := hM
  have h4 : (s.data.toList.set M (UInt8.ofNat v))[M]? = s.data.toList[M]? := by rw [h1]
  rw [List.getElem?_set_self hl, List.getElem?_eq_getElem hl] at h4
  injection h4 with h4
  have h5 : s[M] = s.data.toList[M] := rfl
  rw [h5, ← h4]
  simp
  omega
theorem set_cells {w1 : World} {g j v : Nat} {s : ByteArray} (hv : v < 256) (hj : j < s.size)
    (hc : ∀ k, (hk : k < s.size) → w1.cell? ⟨g, k, none⟩ = some (.int .u8 (s[k].toNat : Nat)) ∧ w1.frozen? ⟨g, k, none⟩ = false)
    (L : List UInt8) (hL : L = s.data.toList.set j (UInt8.ofNat v)) :
    ∀ k, (hk : k < L.length) → (w1.setCell ⟨g, j, none⟩ (.int .u8 (v : Nat))).cell? ((⟨g, 0, none⟩ : Addr).add k) = some (.int .u8 (L[k].toNat : Nat)) := by
  subst hL
  intro k hk
  have hks : k < s.size := by rw [List.length_set, Array.length_toList] at hk; exact hk
  rw [show (⟨g, 0, none⟩ : Addr).add k = ⟨g, k, none⟩ by unfold Addr.add; split <;> simp_all]
  by_cases he : j = k
  · subst he
    rw [World.cell?_setCell_same _ _ _ (hc j hks).1]
    simp
    omega
  · rw [World.cell?_setCell_other _ _ _ _ (by simp [he]), (hc k hks).1]
    rw [List.getElem_set_ne he]
    rfl
end Go.Proofs.Ytkikonknciffiaa
