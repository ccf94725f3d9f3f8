/- The reference's parts: the walk. -/
import Derived.Test.YtnnimkailajgaaaDoorBasDec
namespace Go.Proofs.YtnnimkailajgaaaDoor.Bs
open Go.RowKit
set_option linter.unusedVariables false
set_option linter.unusedSimpArgs false

def rptB (t : ByteArray) : Bool := ptsB t && decide (oc t 0 % 2 = 1)
def rparR (t : ByteArray) : Ending := if rptB t then .returned (.tuple #[.int .i64 (hdN t : Int), .bool true]) else .returned (.tuple #[.int .i64 0, .bool false])
theorem rparR_no {t : ByteArray} (h : rptB t = false) : rparR t = .returned (.tuple #[.int .i64 0, .bool false]) := by unfold rparR; rw [h]; rfl
theorem tl_oc (t : ByteArray) (j : Nat) : oc (tl t) j = oc t (2 + j) := by
  unfold oc tl
  rw [bl_extract]
  simp only [List.getD, List.getElem?_take, List.getElem?_drop]
  split
  · rfl
  · rw [List.getElem?_eq_none (by rw [bl_length]; omega)]
/-- The octets of the length that was taken are those that were there, just if they are as many. -/
theorem len_same {s : ByteArray} (hk : tkOk s = true) : (lenL (tkN s)).length = tkZ s ↔ st (lenL (tkN s)) = s.extract 0 (tkZ s) := by
  have hb := bl_bytes s
  have h0 := oc_lt s 0
  have h1 := oc_lt s 1
  have hk0 : 0 < s.size ∧ (oc s 0 % 2 = 1 ∨ 2 ≤ s.size) := by unfold tkOk at hk; simpa using hk
  constructor
  · intro h
    apply bl_inj
    rw [bl_st (lenL_bytes (tkN_le s)), bl_extract, List.drop_zero, Nat.sub_zero]
    by_cases ho : oc s 0 % 2 = 1
    · have hz : tkZ s = 1 := by unfold tkZ; rw [if_pos ho]
      have hn : tkN s = oc s 0 / 2 := by unfold tkN; rw [if_pos ho]
      rw [hz, hn]
      have h1 := take_succ_getD (bl s) 0 (by rw [bl_length]; omega)
      rw [List.take_zero] at h1
      rw [h1]
      unfold lenL
      rw [if_pos (by omega)]
      show _ = [oc s 0]
      congr 1
      omega
    · have hz : tkZ s = 2 := by unfold tkZ; rw [if_neg ho]
      have hn : tkN s = oc s 0 / 2 + 128 * oc s 1 := by unfold tkN; rw [if_neg ho]
      rw [hz, hn] at h
      rw [hz, hn]
      have q0 := take_succ_getD (bl s) 0 (by rw [bl_length]; omega)
      have q1 := take_succ_getD (bl s) 1 (by rw [bl_length]; omega)
      rw [List.take_zero] at q0
      rw [q1, q0]
      rw [lenL_len] at h
      unfold lenL
      rw [if_neg (by intro hlt; rw [if_pos hlt] at h; omega)]
      show _ = [oc s 0, oc s 1]
      congr 1
      · omega
      · congr 1; omega
  · intro h
    have := congrArg ByteArray.size h
    rw [st_size, ByteArray.size_extract] at this
    have hz : tkZ s ≤ s.size := by unfold tkZ; split <;> omega
    omega


end Go.Proofs.YtnnimkailajgaaaDoor.Bs
