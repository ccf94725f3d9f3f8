/- Plain facts on numbers modulo 8, for the walks of package seq and of its reference. No program in sight. -/
import Derived.WalkKit
namespace Go.Proofs.Ytclijglnbolhbaa
open Go.RowKit

/-- 'n & 7' on an int. -/
theorem and7_i64 (n : Int) : bits .and .i64 n 7 = n % 8 := by
  show IntKind.i64.wrap ((BitVec.ofInt 64 n &&& BitVec.ofInt 64 7).toNat : Int) = _
  have h7 : (BitVec.ofInt 64 (7 : Int)).toNat = 7 := by decide
  rw [BitVec.toNat_and, h7, BitVec.toNat_ofInt, nat_mask3, IntKind.wrap_i64]
  omega

/-- The sum modulo 8, and the way from one number to another. -/
def ad (a n : Int) : Int := (a + n) % 8
def wy (a b : Int) : Int := (b - a) % 8
/-- A window's size. -/
def sz (n : Int) : Int := if n < 0 then 0 else if 7 < n then 7 else n
/-- A window's numbers. -/
def win (a : Int) (k : Nat) : List Int := (List.range k).map fun (i : Nat) => (a + (i : Int)) % 8

theorem win_zero (a : Int) : win a 0 = [] := rfl
theorem win_succ (a : Int) (k : Nat) : win a (k + 1) = win a k ++ [(a + (k : Int)) % 8] := by simp [win, List.range_succ]
theorem win_length (a : Int) (k : Nat) : (win a k).length = k := by simp [win]
theorem win_get (a : Int) (k i : Nat) (h : i < k) : (win a k).getD i 0 = (a + (i : Int)) % 8 := by simp [win, List.getD, h]
theorem sz_bd (n : Int) : 0 ≤ sz n ∧ sz n ≤ 7 := by unfold sz; split <;> (try split) <;> omega
theorem wy_bd (a b : Int) : 0 ≤ wy a b ∧ wy a b ≤ 7 := by unfold wy; omega
theorem ad_bd (a b : Int) : 0 ≤ ad a b ∧ ad a b ≤ 7 := by unfold ad; omega

end Go.Proofs.Ytclijglnbolhbaa
