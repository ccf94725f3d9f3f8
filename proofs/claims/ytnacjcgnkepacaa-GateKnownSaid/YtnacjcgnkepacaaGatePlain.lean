/- Plain facts on a gate's bits and on the rows of words of its reference. No program in sight. -/
import Derived.WalkKit
namespace Go.Proofs.Ytnacjcgnkepacaa
open Go.RowKit
set_option linter.unusedVariables false
set_option linter.unusedSimpArgs false

/-- A channel's bit. -/
def gbit (d : Nat) : Nat := if 1 ≤ d ∧ d ≤ 63 then 2 ^ d else 0
theorem gbit_lt (d : Nat) : gbit d < 18446744073709551616 := by
  unfold gbit
  split
  · rename_i h
    exact Nat.lt_of_le_of_lt (Nat.pow_le_pow_right (by omega) h.2) (by decide)
  · decide
/-- What a row of words says of a channel last. -/
def lastW (l : List (Nat × Bool)) (d : Nat) (first : Bool) : Bool := l.foldl (fun acc p => if p.1 = d then p.2 else acc) first
theorem lastW_snoc (l : List (Nat × Bool)) (p : Nat × Bool) (d : Nat) (first : Bool) : lastW (l ++ [p]) d first = if p.1 = d then p.2 else lastW l d first := by
  simp [lastW, List.foldl_append]
/-- A gate's mask after a Stop. -/
def gset (S d : Nat) (yes : Bool) : Nat := if yes then S ||| gbit d else S &&& (18446744073709551615 - gbit d)
theorem all_ones (b i : Nat) (hb : b < 18446744073709551616) (hi : i < 64) : (18446744073709551615 - b).testBit i = !b.testBit i := by
  have : 18446744073709551615 - b = 2 ^ 64 - (b + 1) := by omega
  rw [this, Nat.testBit_two_pow_sub_succ (by omega)]
  simp [hi]
theorem gbit_test (d i : Nat) : (gbit d).testBit i = (decide (1 ≤ d ∧ d ≤ 63) && decide (d = i)) := by
  unfold gbit
  split
  · rename_i h
    rw [Nat.testBit_two_pow]
    simp [h]
  · rename_i h
    simp [h]
theorem gset_lt (S d : Nat) (yes : Bool) (h : S < 18446744073709551616) : gset S d yes < 18446744073709551616 := by
  unfold gset
  split
  · exact Nat.or_lt_two_pow (n := 64) h (gbit_lt d)
  · exact Nat.lt_of_le_of_lt Nat.and_le_left h
theorem gset_test (S d i : Nat) (yes : Bool) (hi : i < 64) : (gset S d yes).testBit i = if 1 ≤ d ∧ d ≤ 63 ∧ d = i then yes else S.testBit i := by
  unfold gset
  cases yes
  · simp only [Bool.false_eq_true, ↓reduceIte, Nat.testBit_and, all_ones _ _ (gbit_lt d) hi, gbit_test]
    by_cases h : 1 ≤ d ∧ d ≤ 63
    · by_cases h2 : d = i
      · subst h2; simp [h]
      · simp [h2]
    · rw [if_neg (by omega)]; simp [h]
  · simp only [↓reduceIte, Nat.testBit_or, gbit_test]
    by_cases h : 1 ≤ d ∧ d ≤ 63
    · by_cases h2 : d = i
      · subst h2; simp [h]
      · simp [h2]
    · rw [if_neg (by omega)]; simp [h]
/-- What is asked of a mask. -/
theorem and_gbit (S d : Nat) : (S &&& gbit d = 0) = ((decide (1 ≤ d ∧ d ≤ 63) && S.testBit d) = false) := by
  rw [eq_iff_iff]
  unfold gbit
  split
  · rename_i h
    rw [nat_bit, Nat.testBit_eq_decide_div_mod_eq]
    have hp : 0 < 2 ^ d := Nat.two_pow_pos d
    have hm : S / 2 ^ d % 2 = 0 ∨ S / 2 ^ d % 2 = 1 := by omega
    rcases hm with hm | hm <;> rw [hm] <;> simp [h]
  · rename_i h
    simp [h]
theorem gbit_andNot (S d : Nat) (hS : S < 18446744073709551616) : (gbit d &&& (18446744073709551615 - S) = 0) = ((decide (1 ≤ d ∧ d ≤ 63) && !S.testBit d) = false) := by
  rw [Nat.and_comm, and_gbit]
  by_cases h : 1 ≤ d ∧ d ≤ 63
  · rw [all_ones S d hS (by omega)]
  · simp [h]

end Go.Proofs.Ytnacjcgnkepacaa
