/- Plain facts on control octets: what Put tells, what Get tells, and that each undoes the other. No program in sight. -/
import Derived.Test.YtnnimkailajgaaaDoorStuff2
import Derived.WalkKit
namespace Go.Proofs.YtnnimkailajgaaaDoor
open Go.RowKit
set_option linter.unusedVariables false
set_option linter.unusedSimpArgs false

/-- The octets of kinds, as the program's table has them. -/
def octT : List Nat := [0, 47, 99, 15, 67, 239, 3, 0, 1, 5, 9]
def putOk (k s r : Nat) : Bool := decide (1 ≤ k ∧ k ≤ 10 ∧ s ≤ 7 ∧ r ≤ 7 ∧ (s = 0 ∨ k = 7) ∧ (r = 0 ∨ 7 ≤ k))
def putN (k : Nat) (p : Bool) (s r : Nat) : Nat := octT.getD k 0 + 2 * s + 32 * r + if p then 16 else 0
def putV (k : Nat) (p : Bool) (s r : Nat) : Nat := if putOk k s r then putN k p s r else 0
def putE (k s r : Nat) : Nat := if putOk k s r then 0 else 2
/-- What kind an octet tells; 0: none. -/
def gk (c : Nat) : Nat :=
  if c % 2 = 0 then 7 else if c % 4 = 1 then (if c % 16 = 1 then 8 else if c % 16 = 5 then 9 else if c % 16 = 9 then 10 else 0)
  else (if c - 16 * (c / 16 % 2) = 47 then 1 else if c - 16 * (c / 16 % 2) = 99 then 2 else if c - 16 * (c / 16 % 2) = 15 then 3 else if c - 16 * (c / 16 % 2) = 67 then 4 else if c - 16 * (c / 16 % 2) = 239 then 5 else if c - 16 * (c / 16 % 2) = 3 then 6 else 0)
def gp (c : Nat) : Bool := decide (gk c ≠ 0) && decide (c / 16 % 2 = 1)
def gs (c : Nat) : Nat := if gk c = 7 then c / 2 % 8 else 0
def gr (c : Nat) : Nat := if 7 ≤ gk c then c / 32 else 0
def ge (c : Nat) : Nat := if gk c = 0 then 30 else 0

theorem octT_lt : ∀ k, octT.getD k 0 ≤ 255 := by
  intro k
  by_cases h : k < 11
  · exact (show ∀ k, k < 11 → octT.getD k 0 ≤ 255 by decide) k h
  · simp [octT, show 11 ≤ k by omega, List.getD_eq_getElem?_getD, List.getElem?_eq_none]
def partsB (k s r : Nat) : Bool := !putOk k s r || (decide (((octT.getD k 0 ||| 2 * s) ||| 32 * r) = putN k false s r) && decide ((((octT.getD k 0 ||| 2 * s) ||| 32 * r) ||| 16) = putN k true s r) && decide (putN k true s r ≤ 255) && decide (putN k false s r ≤ 255))
def backB (k s r : Nat) (p : Bool) : Bool := !putOk k s r || (decide (gk (putN k p s r) = k) && (gp (putN k p s r) == p) && decide (gs (putN k p s r) = s) && decide (gr (putN k p s r) = r))
theorem all_rows (f : Nat → Nat → Nat → Bool) (h : ((List.range 11).all fun k => (List.range 8).all fun s => (List.range 8).all fun r => f k s r) = true) : ∀ k s r, k < 11 → s < 8 → r < 8 → f k s r = true := by
  intro k s r hk hs hr
  rw [List.all_eq_true] at h
  have h1 := h k (List.mem_range.2 hk)
  rw [List.all_eq_true] at h1
  have h2 := h1 s (List.mem_range.2 hs)
  rw [List.all_eq_true] at h2
  exact h2 r (List.mem_range.2 hr)
theorem putOk_parts {k s r : Nat} (h : putOk k s r = true) : 1 ≤ k ∧ k ≤ 10 ∧ s ≤ 7 ∧ r ≤ 7 ∧ (s = 0 ∨ k = 7) ∧ (r = 0 ∨ 7 ≤ k) := of_decide_eq_true h
theorem put_parts {k s r : Nat} (h : putOk k s r = true) :
    ((octT.getD k 0 ||| 2 * s) ||| 32 * r) = putN k false s r ∧ (((octT.getD k 0 ||| 2 * s) ||| 32 * r) ||| 16) = putN k true s r ∧ putN k true s r ≤ 255 ∧ putN k false s r ≤ 255 := by
  obtain ⟨h1, h2, h3, h4, _⟩ := putOk_parts h
  have := all_rows partsB (by decide +kernel) k s r (by omega) (by omega) (by omega)
  simp only [partsB, h, Bool.not_true, Bool.false_or, Bool.and_eq_true, decide_eq_true_eq] at this
  exact ⟨this.1.1.1, this.1.1.2, this.1.2, this.2⟩
theorem get_put {k s r : Nat} (p : Bool) (h : putOk k s r = true) : gk (putN k p s r) = k ∧ gp (putN k p s r) = p ∧ gs (putN k p s r) = s ∧ gr (putN k p s r) = r := by
  obtain ⟨h1, h2, h3, h4, _⟩ := putOk_parts h
  have := all_rows (fun k s r => backB k s r true && backB k s r false) (by decide +kernel) k s r (by omega) (by omega) (by omega)
  simp only [Bool.and_eq_true] at this
  have hb : backB k s r p = true := by cases p; exact this.2; exact this.1
  simp only [backB, h, Bool.not_true, Bool.false_or, Bool.and_eq_true, decide_eq_true_eq, beq_iff_eq] at hb
  exact ⟨hb.1.1.1, hb.1.1.2, hb.1.2, hb.2⟩
theorem put_get_all : ∀ c, c < 256 → gk c ≠ 0 → putOk (gk c) (gs c) (gr c) = true ∧ putN (gk c) (gp c) (gs c) (gr c) = c := by
  decide +kernel
theorem putN_lt {k s r : Nat} (p : Bool) (h : putOk k s r = true) : putN k p s r ≤ 255 := by
  have := put_parts h
  cases p
  · exact this.2.2.2
  · exact this.2.2.1
theorem gk_le (c : Nat) : gk c ≤ 10 := by unfold gk; repeat (first | split | omega)
theorem gs_le (c : Nat) : gs c ≤ 7 := by unfold gs; split <;> omega
theorem gr_le (c : Nat) (h : c ≤ 255) : gr c ≤ 7 := by unfold gr; split <;> omega
/-- Where nothing is told, all is nought. -/
theorem none_told {c : Nat} (h : gk c = 0) : gp c = false ∧ gs c = 0 ∧ gr c = 0 := by simp [gp, gs, gr, h]
/-- An octet that is got by two is one. -/
theorem put_of_get {c : Nat} (hc : c ≤ 255) (h : gk c ≠ 0) : putOk (gk c) (gs c) (gr c) = true ∧ putN (gk c) (gp c) (gs c) (gr c) = c := put_get_all c (by omega) h

end Go.Proofs.YtnnimkailajgaaaDoor
