/- The chapter's examples. -/
import Derived.Test.YtkikonknciffiaaHsRows
namespace Go.Proofs.Ytkikonknciffiaa
open Go.RowKit
set_option linter.unusedVariables false
set_option linter.unusedSimpArgs false

/-- A row written out. -/
def zl (l : List En) (i : Nat) : En := l.getD i zE
theorem holds_new (w : World) (t : TypeId) (cs : List Value) (n : Nat) (z : Nat → En) (h : cs = rowC z n) : HoldsE (w.alloc (.cells cs.toArray t)) (some ⟨w.heap.size, 0, none⟩) n z := by
  intro h0
  refine ⟨_, _, rfl, by rw [World.size_alloc]; omega, fun i hi j hj => ?_⟩
  have h1 := rowC_at z n i j hi hj
  have hl := rowC_length z n
  rw [← h] at h1 hl
  have h2 := cells_new w cs t (i * 9 + j) (cs[i * 9 + j]'(by omega)) (List.getElem?_eq_getElem (by omega))
  rw [Addr.add_lit] at h2
  rw [h2, ← h1]
  exact (List.getElem?_eq_getElem _).symm
theorem HoldsE.drewN {w : World} {a : Option Addr} {n : Nat} {z : Nat → En} (h : HoldsE w a n z) (m : Nat) : HoldsE (w.drewN m) a n z := h
/-- What history.Accepts says of a row of which it is known. -/
theorem hacc_is (a : Option Addr) (n ca : Nat) (z : Nat → En) (w : World) (hE : HoldsE w a n z) (hn : n ≤ 1000) (hz : ∀ i, i < n → EnOk (z i)) (k : Nat) (ok : Bool) (h : AccR z n k ok) :
    Calls Try.prog 10 #[.slice a n ca] w fun e w' => e = .returned (.tuple #[.int .i64 (k : Int), .bool ok]) ∧ Below w.heap.size w w' := by
  refine (haccepts_any a n ca z w hE hn hz).mono ?_
  rintro e w' ⟨k', ok', rfl, h', b⟩
  obtain ⟨rfl, rfl⟩ := h.unique h'
  exact ⟨rfl, b⟩
def rightsB (z : Nat → En) : Nat → Bool
  | 0 => true
  | n + 1 => rightsB z n && rightR z n (z n)
theorem rightsB_at {z : Nat → En} : ∀ n, rightsB z n = true → ∀ j, j < n → rightR z j (z j) = true := by
  intro n
  induction n with
  | zero => intro _ i hi; omega
  | succ n ih =>
    intro h i hi
    rw [rightsB, Bool.and_eq_true] at h
    by_cases e : i = n
    · subst e; exact h.2
    · exact ih h.1 i (by omega)
theorem acc_all {z : Nat → En} {n : Nat} (h : rightsB z n = true) : AccR z n n true := ⟨Nat.le_refl _, rightsB_at n h, fun _ => rfl, fun x => (by cases x)⟩
theorem acc_bad {z : Nat → En} {n k : Nat} (h : rightsB z k = true) (hk : k < n) (hb : rightR z k (z k) = false) : AccR z n k false := ⟨by omega, rightsB_at k h, fun x => (by cases x), fun _ => ⟨hk, hb⟩⟩
def okB (z : Nat → En) : Nat → Bool
  | 0 => true
  | n + 1 => okB z n && (decide ((z n).side ≤ 255) && (decide ((z n).kind ≤ 255) && (decide ((z n).dlci ≤ 255) && (decide (-9223372036854775808 ≤ (z n).n) && (decide ((z n).n ≤ 9223372036854775807) && decide ((z n).data.size ≤ 60))))))
theorem okB_at {z : Nat → En} : ∀ n, okB z n = true → ∀ j, j < n → EnOk (z j) := by
  intro n
  induction n with
  | zero => intro _ i hi; omega
  | succ n ih =>
    intro h i hi
    simp only [okB, Bool.and_eq_true, decide_eq_true_eq] at h
    by_cases e : i = n
    · subst e; exact ⟨h.2.1, h.2.2.1, h.2.2.2.1, h.2.2.2.2.1, h.2.2.2.2.2.1, h.2.2.2.2.2.2⟩
    · exact ih h.1 i (by omega)

def exL (s : ByteArray) : List En := [⟨1, 0, 3, 5, false, 1, 0, ⟨#[97, 98]⟩, 0⟩, ⟨1, 0, 3, 5, true, 1, 2, ⟨#[]⟩, 0⟩, ⟨2, 1, 4, 5, false, 2, 9, ⟨#[]⟩, 0⟩, ⟨3, 1, 4, 5, true, 2, 0, s, 0⟩]
def w3L : List En := [⟨1, 0, 5, 5, false, 1, 0, ⟨#[]⟩, 0⟩, ⟨2, 0, 3, 5, false, 2, 0, ⟨#[97]⟩, 0⟩, ⟨2, 0, 3, 5, true, 2, 1, ⟨#[]⟩, 0⟩]
set_option maxRecDepth 100000 in
theorem ex_ab : AccR (zl (exL ⟨#[97, 98]⟩)) 4 4 true := acc_all (by decide +kernel)
set_option maxRecDepth 100000 in
theorem ex_ba : AccR (zl (exL ⟨#[98, 97]⟩)) 4 3 false := acc_bad (by decide +kernel) (by decide) (by decide +kernel)
set_option maxRecDepth 100000 in
theorem ex_w3 : AccR (zl w3L) 3 2 false := acc_bad (by decide +kernel) (by decide) (by decide +kernel)
set_option maxRecDepth 100000 in
theorem ok_ab : ∀ i, i < 4 → EnOk (zl (exL ⟨#[97, 98]⟩) i) := okB_at 4 (by decide +kernel)
set_option maxRecDepth 100000 in
theorem ok_ba : ∀ i, i < 4 → EnOk (zl (exL ⟨#[98, 97]⟩) i) := okB_at 4 (by decide +kernel)
set_option maxRecDepth 100000 in
theorem ok_w3 : ∀ i, i < 3 → EnOk (zl w3L i) := okB_at 3 (by decide +kernel)

set_option maxRecDepth 100000 in
set_option maxHeartbeats 4000000 in
theorem example_any (s : ByteArray) (w : World) :
    Calls Try.prog 18 #[.string s] w fun e w' => e = .returned (.slice (some ⟨w.heap.size, 0, none⟩) 4 4) ∧ HoldsE w' (some ⟨w.heap.size, 0, none⟩) 4 (zl (exL s)) ∧ Below w.heap.size w w' := by
  go_enter Try.func18, Try.ntmps18
  go_wp2
  go_ret
  exact ⟨rfl, holds_new w _ _ 4 (zl (exL s)) rfl, (Below.refl w.heap.size w).alloc (Nat.le_refl _) _⟩

set_option maxRecDepth 100000 in
set_option maxHeartbeats 4000000 in
theorem works_any (w : World) :
    Calls Try.prog 9 #[] w fun e w' => e = .returned (.bool true) ∧ Below w.heap.size w w' := by
  go_enter Try.func9, Try.ntmps9
  go_wp2_with fail
  refine (example_any _ _).mono ?_
  rintro e w1 ⟨rfl, h1, b1⟩
  go_wp2_with fail
  refine (hacc_is _ 4 4 _ _ h1 (by decide) ok_ab 4 true ex_ab).mono ?_
  rintro e w2 ⟨rfl, b2⟩
  have bw2 := below_step b1 (Nat.le_refl _) b2
  clear b1 b2 h1
  go_wp2_with fail
  refine (example_any _ _).mono ?_
  rintro e w3 ⟨rfl, h3, b3⟩
  have bw3 := below_step bw2 (Nat.le_refl _) b3
  clear bw2 b3
  go_wp2_with fail
  refine (hacc_is _ 4 4 _ _ h3 (by decide) ok_ba 3 false ex_ba).mono ?_
  rintro e w4 ⟨rfl, b4⟩
  have bw4 := below_step bw3 (Nat.le_refl _) b4
  clear bw3 b4 h3
  go_wp2_with fail
  refine (hacc_is _ 3 3 (zl w3L) _ (holds_new w4 _ _ 3 (zl w3L) rfl) (by decide) ok_w3 2 false ex_w3).mono ?_
  rintro e w5 ⟨rfl, b5⟩
  have bw5 := below_step bw4 (Nat.le_refl _) (((Below.refl w4.heap.size w4).alloc (Nat.le_refl _) _).trans (b5.mono (by rw [World.size_alloc]; omega)))
  clear bw4 b5
  go_wp2
  go_ret
  exact ⟨rfl, bw5⟩
end Go.Proofs.Ytkikonknciffiaa
