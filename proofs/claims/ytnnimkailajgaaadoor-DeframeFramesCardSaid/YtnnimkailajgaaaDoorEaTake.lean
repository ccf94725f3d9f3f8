/- ea.Take and the reference's Take. -/
import Derived.Test.YtnnimkailajgaaaDoorOwn8
import Derived.BigQuiet
namespace Go.Proofs.YtnnimkailajgaaaDoor
open Go.RowKit
set_option linter.unusedVariables false
set_option linter.unusedSimpArgs false

/-- What both Takes answer. -/
def tkN (s : ByteArray) : Nat := if oc s 0 % 2 = 1 then oc s 0 / 2 else oc s 0 / 2 + 128 * oc s 1
def tkZ (s : ByteArray) : Nat := if oc s 0 % 2 = 1 then 1 else 2
def tkOk (s : ByteArray) : Bool := decide (0 < s.size) && (decide (oc s 0 % 2 = 1) || decide (2 ≤ s.size))
def tkR (s : ByteArray) : Ending := if tkOk s then .returned (.tuple #[.int .i64 (tkN s : Int), .int .i64 (tkZ s : Int), .int .i64 0]) else .returned (.tuple #[.int .i64 0, .int .i64 0, .int .i64 20])
theorem tkN_le (s : ByteArray) : tkN s ≤ 32767 := by
  have h0 := oc_lt s 0
  have h1 := oc_lt s 1
  unfold tkN; split <;> omega
theorem u8_bit0 : ∀ a : Nat, a < 256 → bits .and .u8 (a : Int) 1 = ((a % 2 : Nat) : Int) := by decide +kernel
theorem or_shl (a b : Nat) (ha : a < 128) : a ||| (128 * b) = a + 128 * b := by
  have := Nat.two_pow_add_eq_or_of_lt (i := 7) (b := a) (by omega) b
  simp only [Nat.reducePow] at this
  rw [Nat.or_comm, ← this]; omega

theorem ofInt64 (a : Nat) (h : a < 65536) : (BitVec.ofInt 64 (a : Int)).toNat = a := by rw [BitVec.toNat_ofInt]; omega
theorem i64_or_nat (a b : Nat) (ha : a < 65536) (hb : b < 65536) : bits .or .i64 (a : Int) (b : Int) = ((a ||| b : Nat) : Int) := by
  have hx : a ||| b < 2 ^ 16 := Nat.or_lt_two_pow (by omega) (by omega)
  show IntKind.i64.wrap ((BitVec.ofInt 64 (a : Int) ||| BitVec.ofInt 64 (b : Int)).toNat : Int) = _
  rw [BitVec.toNat_or, ofInt64 a ha, ofInt64 b hb, IntWalk.i64_in _ (by omega)]
theorem i64_and_nat (a b : Nat) (ha : a < 65536) (hb : b < 65536) : bits .and .i64 (a : Int) (b : Int) = ((a &&& b : Nat) : Int) := by
  have hx : a &&& b < 2 ^ 16 := Nat.and_lt_two_pow _ (by omega)
  show IntKind.i64.wrap ((BitVec.ofInt 64 (a : Int) &&& BitVec.ofInt 64 (b : Int)).toNat : Int) = _
  rw [BitVec.toNat_and, ofInt64 a ha, ofInt64 b hb, IntWalk.i64_in _ (by omega)]
theorem take_or (a c : Nat) (ha : a ≤ 255) (hc : c ≤ 255) : bits .or .i64 ((a : Int) / 2) ((c : Int) * 128) = ((a / 2 + 128 * c : Nat) : Int) := by
  have h := i64_or_nat (a / 2) (128 * c) (by omega) (by omega)
  rw [or_shl (a / 2) c (by omega)] at h
  rw [← h]
  congr 1
  push_cast
  omega

set_option maxHeartbeats 1000000 in
theorem take_any (s : ByteArray) (w : World) (hs : s.size ≤ 100000) :
    Calls Tryd.prog 38 #[.string s] w fun e w' => e = tkR s ∧ Below w.heap.size w w' := by
  by_cases hz : s.size = 0
  · have hR : tkR s = .returned (.tuple #[.int .i64 0, .int .i64 0, .int .i64 20]) := by unfold tkR tkOk; rw [if_neg (by simp [hz])]
    rw [hR, empty_of s hz]
    go_enter Tryd.func38, Tryd.ntmps38
    go_wp2
    go_ret3
    exact ⟨rfl, Below.refl _ _⟩
  obtain ⟨hne, hne2⟩ := ne_empty s (by omega)
  have hq0 := oc_at s 0 (by omega)
  have hl0 := oc_lt s 0
  have hb0 := u8_bit0 (oc s 0) (by omega)
  by_cases ho : oc s 0 % 2 = 1
  · have hR : tkR s = .returned (.tuple #[.int .i64 ((oc s 0 / 2 : Nat) : Int), .int .i64 1, .int .i64 0]) := by
      unfold tkR tkOk tkN tkZ; rw [if_pos (by simp [ho]; omega), if_pos ho, if_pos ho]; rfl
    rw [hR]
    rw [ho] at hb0
    have hpos : 0 < s.size := by omega
    clear hR ho
    generalize oc s 0 = a at *
    go_enter Tryd.func38, Tryd.ntmps38
    go_wp2
    go_ret3
    exact ⟨rfl, Below.refl _ _⟩
  rw [show oc s 0 % 2 = 0 by omega] at hb0
  by_cases h2 : s.size < 2
  · have hR : tkR s = .returned (.tuple #[.int .i64 0, .int .i64 0, .int .i64 20]) := by unfold tkR tkOk; rw [if_neg (by simp [ho]; omega)]
    rw [hR]
    have hpos : 0 < s.size := by omega
    have h2' : (s.size : Int) < 2 := by omega
    clear hR ho
    generalize oc s 0 = a at *
    go_enter Tryd.func38, Tryd.ntmps38
    go_wp2
    go_ret3
    exact ⟨rfl, Below.refl _ _⟩
  have hq1 := oc_at s 1 (by omega)
  have hl1 := oc_lt s 1
  have hR : tkR s = .returned (.tuple #[.int .i64 ((oc s 0 / 2 + 128 * oc s 1 : Nat) : Int), .int .i64 2, .int .i64 0]) := by
    unfold tkR tkOk tkN tkZ; rw [if_pos (by simp; omega), if_neg ho, if_neg ho]; rfl
  rw [hR]
  have hpos : 0 < s.size := by omega
  have hpos1 : 1 < s.size := by omega
  have h2' : ¬ (s.size : Int) < 2 := by omega
  clear hR ho
  generalize oc s 0 = a at *
  generalize oc s 1 = c at *
  have hor := take_or a c hl0 hl1
  obtain ⟨N, hN⟩ : ∃ N, a / 2 + 128 * c = N := ⟨_, rfl⟩
  rw [hN] at hor
  rw [hN]
  clear hN
  go_enter Tryd.func38, Tryd.ntmps38
  go_wp2
  go_quiet (fail)
  go_wp2
  go_ret3
  exact ⟨rfl, below_drewN (Below.refl _ _) _⟩

end Go.Proofs.YtnnimkailajgaaaDoor
