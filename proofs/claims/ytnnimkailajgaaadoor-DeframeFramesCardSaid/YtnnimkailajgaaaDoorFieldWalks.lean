/- The walks of package field and of its reference: what each call answers, in the words of the plain facts. 'Octs w': the table lies there as the program's text lays it. -/
import Derived.Test.YtnnimkailajgaaaDoorFieldPlain
namespace Go.Proofs.YtnnimkailajgaaaDoor
open Go.RowKit
set_option linter.unusedVariables false
set_option linter.unusedSimpArgs false

/-- The table is there. -/
def Octs (w : World) : Prop := ∀ i, i < 11 → w.cell? ⟨0, i, none⟩ = some (.int .u8 (octT.getD i 0 : Nat))
theorem Octs.lt {w : World} (h : Octs w) : 0 < w.heap.size := World.block_lt_of_cell? w ⟨0, 0, none⟩ (h 0 (by omega))
theorem Octs.below {w w' : World} (h : Octs w) (hb : Below w.heap.size w w') : Octs w' := fun i hi => by rw [hb.cell (p := ⟨0, i, none⟩) h.lt]; exact h i hi

theorem putOk_false {k s r : Nat} (h : ¬ (1 ≤ k ∧ k ≤ 10 ∧ s ≤ 7 ∧ r ≤ 7 ∧ (s = 0 ∨ k = 7) ∧ (r = 0 ∨ 7 ≤ k))) : putOk k s r = false := decide_eq_false h
/-- What Put tells. -/
def putR (k : Nat) (p : Bool) (s r : Nat) : Ending := .returned (.tuple #[.int .u8 (putV k p s r : Nat), .int .i64 (putE k s r : Nat)])
theorem putR_bad {k s r : Nat} (p : Bool) (h : ¬ (1 ≤ k ∧ k ≤ 10 ∧ s ≤ 7 ∧ r ≤ 7 ∧ (s = 0 ∨ k = 7) ∧ (r = 0 ∨ 7 ≤ k))) : putR k p s r = .returned (.tuple #[.int .u8 0, .int .i64 2]) := by
  unfold putR putV putE; rw [putOk_false h]; rfl
theorem putR_ok {k s r : Nat} (p : Bool) (h : putOk k s r = true) : putR k p s r = .returned (.tuple #[.int .u8 (putN k p s r : Nat), .int .i64 0]) := by
  unfold putR putV putE; rw [h]; rfl

theorem put_bits {k s r : Nat} (h : putOk k s r = true) :
    bits .or .u8 (bits .or .u8 ((octT.getD k 0 : Nat) : Int) ((s : Int) * 2)) ((r : Int) * 32) = (putN k false s r : Nat) ∧ bits .or .u8 ((putN k false s r : Nat) : Int) 16 = (putN k true s r : Nat) := by
  obtain ⟨e1, e2, e3, e4⟩ := put_parts h
  obtain ⟨h1, h2, h3, h4, _⟩ := putOk_parts h
  have hz := octT_lt k
  have hs : ((s : Int) * 2) = ((2 * s : Nat) : Int) := by omega
  have hr : ((r : Int) * 32) = ((32 * r : Nat) : Int) := by omega
  have hl : octT.getD k 0 ||| 2 * s < 256 := Nat.or_lt_two_pow (n := 8) (by omega) (by omega)
  rw [hs, hr, u8_or_nat _ _ (by omega) (by omega), u8_or_nat _ _ hl (by omega), e1]
  refine ⟨rfl, ?_⟩
  rw [show (16 : Int) = ((16 : Nat) : Int) from rfl, u8_or_nat _ _ (by omega) (by omega), ← e2, e1]

set_option maxHeartbeats 1000000 in
theorem fput_any (k : Nat) (p : Bool) (s r : Nat) (w : World) (hh : Octs w) (h1 : k ≤ 255) (h2 : s ≤ 255) (h3 : r ≤ 255) :
    Calls Tryd.prog 31 #[.int .u8 (k : Int), .bool p, .int .u8 (s : Int), .int .u8 (r : Int)] w fun e w' => e = putR k p s r ∧ w = w' := by
  by_cases c1 : k < 1
  · rw [putR_bad p (by omega)]
    go_enter Tryd.func31, Tryd.ntmps31
    go_wp2
    go_ret2
    exact ⟨rfl, rfl⟩
  by_cases c2 : 10 < k
  · rw [putR_bad p (by omega)]
    go_enter Tryd.func31, Tryd.ntmps31
    go_wp2
    go_ret2
    exact ⟨rfl, rfl⟩
  by_cases c3 : 7 < s
  · rw [putR_bad p (by omega)]
    go_enter Tryd.func31, Tryd.ntmps31
    go_wp2
    go_ret2
    exact ⟨rfl, rfl⟩
  by_cases c4 : 7 < r
  · rw [putR_bad p (by omega)]
    go_enter Tryd.func31, Tryd.ntmps31
    go_wp2
    go_ret2
    exact ⟨rfl, rfl⟩
  by_cases c5 : 0 < s ∧ k ≠ 7
  · rw [putR_bad p (by omega)]
    have c6 : ((k : Int) == 7) = false := by rw [beq_eq_false_iff_ne]; omega
    obtain ⟨c7, _⟩ := c5
    go_enter Tryd.func31, Tryd.ntmps31
    go_wp2
    go_ret2
    exact ⟨rfl, rfl⟩
  by_cases c6 : 0 < r ∧ k < 7
  · rw [putR_bad p (by omega)]
    obtain ⟨c7, c8⟩ := c6
    by_cases c9 : 0 < s
    · exfalso; omega
    go_enter Tryd.func31, Tryd.ntmps31
    go_wp2
    go_ret2
    exact ⟨rfl, rfl⟩
  have hok : putOk k s r = true := decide_eq_true (by omega)
  obtain ⟨B1, B2⟩ := put_bits hok
  have hc := hh k (by omega)
  have hz := octT_lt k
  have hl0 := putN_lt false hok
  rw [putR_ok p hok]
  generalize octT.getD k 0 = z at hc B1 hz
  have hok2 := putOk_parts hok
  cases p with
  | false =>
    generalize putN k false s r = y at B1 B2 hl0 ⊢
    by_cases d1 : 0 < s
    · obtain rfl : k = 7 := by omega
      by_cases d2 : 0 < r
      · clear B2 c5 c6 hok hok2
        go_enter Tryd.func31, Tryd.ntmps31
        go_wp2
        go_ret2
        exact ⟨rfl, rfl⟩
      · clear B2 c5 c6 hok hok2
        go_enter Tryd.func31, Tryd.ntmps31
        go_wp2
        go_ret2
        exact ⟨rfl, rfl⟩
    · by_cases d2 : 0 < r
      · have d3 : 7 ≤ k := by omega
        clear B2 c5 c6 hok hok2
        go_enter Tryd.func31, Tryd.ntmps31
        go_wp2
        go_ret2
        exact ⟨rfl, rfl⟩
      · clear B2 c5 c6 hok hok2
        go_enter Tryd.func31, Tryd.ntmps31
        go_wp2
        go_ret2
        exact ⟨rfl, rfl⟩
  | true =>
    generalize putN k false s r = y at B1 B2 hl0
    by_cases d1 : 0 < s
    · obtain rfl : k = 7 := by omega
      by_cases d2 : 0 < r
      · clear c5 c6 hok hok2
        go_enter Tryd.func31, Tryd.ntmps31
        go_wp2
        go_ret2
        exact ⟨rfl, rfl⟩
      · clear c5 c6 hok hok2
        go_enter Tryd.func31, Tryd.ntmps31
        go_wp2
        go_ret2
        exact ⟨rfl, rfl⟩
    · by_cases d2 : 0 < r
      · have d3 : 7 ≤ k := by omega
        clear c5 c6 hok hok2
        go_enter Tryd.func31, Tryd.ntmps31
        go_wp2
        go_ret2
        exact ⟨rfl, rfl⟩
      · clear c5 c6 hok hok2
        go_enter Tryd.func31, Tryd.ntmps31
        go_wp2
        go_ret2
        exact ⟨rfl, rfl⟩

end Go.Proofs.YtnnimkailajgaaaDoor
