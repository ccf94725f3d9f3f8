/- Frames of the basic option: which may be, how much they hold, their check: the walks. -/
import Derived.Test.YtnnimkailajgaaaDoorEaOct
namespace Go.Proofs.YtnnimkailajgaaaDoor.Bs
open Go.RowKit
set_option linter.unusedVariables false
set_option linter.unusedSimpArgs false

def carF (c : Bool) (k : Nat) (i : ByteArray) : Bool := mayF k c && (decide (i.size = 0) || carr k)
theorem mayOk_eq (d : Nat) (c : Bool) (k s r : Nat) (i : ByteArray) : mayOk d c k s r i = (putOk k s r && decide (d ≤ 63) && carF c k i) := by
  unfold mayOk carF
  rw [Bool.and_assoc (putOk k s r && decide (d ≤ 63))]
/-- The check. -/
def chk (k : Nat) (h i : ByteArray) : Nat := fsum (bl (if k = 5 then h else h ++ i))
theorem chk_lt (k : Nat) (h i : ByteArray) : chk k h i ≤ 255 := by have := fsum_lt (bl (if k = 5 then h else h ++ i)); unfold chk; omega
/-- The head of a body, and a body. -/
def headF (d : Nat) (c : Bool) (k : Nat) (p : Bool) (s r : Nat) (i : ByteArray) (b : Bool) : ByteArray := st ([eaA d (c == b), putN k p s r] ++ lenL i.size)
def bodyF (d : Nat) (c : Bool) (k : Nat) (p : Bool) (s r : Nat) (i : ByteArray) (b : Bool) : ByteArray := headF d c k p s r i b ++ i ++ st [chk k (headF d c k p s r i b) i]
def encR4 (d : Nat) (c : Bool) (k : Nat) (p : Bool) (s r : Nat) (i : ByteArray) (b : Bool) (n1 : Int) : Ending :=
  if mayOk d c k s r i = false ∨ eaA d (c == b) = 249 then .returned (.tuple #[.string ⟨#[]⟩, .int .i64 2])
  else if room n1 < (i.size : Int) then .returned (.tuple #[.string ⟨#[]⟩, .int .i64 3])
  else .returned (.tuple #[.string (st [249] ++ bodyF d c k p s r i b ++ st [249]), .int .i64 0])
theorem append_none (h : ByteArray) : h ++ (⟨#[]⟩ : ByteArray) = h := ByteArray.append_empty

theorem broom_any (n1 : Int) (w : World) : Calls Tryd.prog 22 #[.int .i64 n1] w fun e w' => e = .returned (.int .i64 (room n1)) ∧ w = w' := by
  go_enter Tryd.func22, Tryd.ntmps22
  go_wp2
  all_goals
    go_ret
    exact ⟨ret_int (by unfold room; omega), rfl⟩
theorem rroom_any (n1 : Int) (w : World) : Calls Tryd.prog 11 #[.int .i64 n1] w fun e w' => e = .returned (.int .i64 (room n1)) ∧ w = w' := by
  go_enter Tryd.func11, Tryd.ntmps11
  go_wp2
  all_goals
    go_ret
    exact ⟨ret_int (by unfold room; omega), rfl⟩

set_option maxHeartbeats 4000000 in
theorem carries_any (d k s r : Nat) (c p : Bool) (i : ByteArray) (w : World) (h1 : k ≤ 255) :
    Calls Tryd.prog 35 #[.agg #[.int .u8 (d : Int), .bool c, .int .u8 (k : Int), .bool p, .int .u8 (s : Int), .int .u8 (r : Int), .string i]] w fun e w' => e = .returned (.bool (carF c k i)) ∧ Below w.heap.size w w' := by
  have hc1 := fun w => fmay_any k c w h1
  have hc2 := fun w => fcarries_any k w h1
  cases hm : mayF k c with
  | false =>
    have e1 : carF c k i = false := by unfold carF; rw [hm]; rfl
    rw [hm] at hc1
    rw [e1]
    have HC := hide hc1
    clear e1 hm hc1 hc2
    go_enter Tryd.func35, Tryd.ntmps35
    go_wp2_with fail
    refine (HC.out _).mono ?_
    rintro e w' ⟨rfl, rfl⟩
    go_wp2
    go_ret
    exact ⟨rfl, (Below.refl _ _).alloc (Nat.le_refl _) _⟩
  | true =>
    rw [hm] at hc1
    have HC := hide hc1
    have HD := hide hc2
    have HM := hide hm
    clear hm hc1 hc2
    by_cases h0i : i.size = 0
    · have e1 : carF c k i = true := by unfold carF; rw [HM.out, decide_eq_true h0i]; rfl
      rw [e1]
      obtain rfl := empty_of i h0i
      clear e1 h0i
      go_enter Tryd.func35, Tryd.ntmps35
      go_wp2_with fail
      refine (HC.out _).mono ?_
      rintro e w' ⟨rfl, rfl⟩
      go_wp2
      go_ret
      exact ⟨rfl, (Below.refl _ _).alloc (Nat.le_refl _) _⟩
    · have e1 : carF c k i = carr k := by unfold carF; rw [HM.out, decide_eq_false h0i]; rfl
      rw [e1]
      obtain ⟨hne, hem⟩ := ne_empty i (by omega)
      generalize carr k = C at *
      clear e1 h0i
      go_enter Tryd.func35, Tryd.ntmps35
      go_wp2_with fail
      refine (HC.out _).mono ?_
      rintro e w' ⟨rfl, rfl⟩
      go_wp2_with fail
      refine (HD.out _).mono ?_
      rintro e w' ⟨rfl, rfl⟩
      go_wp2
      go_ret
      exact ⟨rfl, (Below.refl _ _).alloc (Nat.le_refl _) _⟩

theorem bcheck_any (k : Nat) (h i : ByteArray) (w : World) (hf : Half w) (hh : h.size ≤ 100000) (hi : i.size ≤ 100000) :
    Calls Tryd.prog 37 #[.int .u8 (k : Int), .string h, .string i] w fun e w' => e = .returned (.int .u8 (chk k h i : Nat)) ∧ w = w' := by
  have hl := chk_lt k h i
  by_cases hk : k = 5
  · have hc : chk k h i = fsum (bl (h ++ ⟨#[]⟩)) := by unfold chk; rw [if_pos hk, append_none]
    have hq : ¬ 9223372036854775807 < h.size + (⟨#[]⟩ : ByteArray).size := by have h0 : (⟨#[]⟩ : ByteArray).size = 0 := rfl; omega
    have hq2 : ¬ 9223372036854775807 < h.size := by omega
    have HS := hide (fun W (h8 : Half W) => fsum_any (h ++ ⟨#[]⟩) W h8 (by rw [append_none]; unfold maxLen; omega))
    rw [hc] at hl ⊢
    subst hk
    clear hc
    go_enter Tryd.func37, Tryd.ntmps37
    go_wp2_with fail
    refine (HS.out _ hf).mono ?_
    rintro e w' ⟨rfl, rfl⟩
    go_wp2
    go_ret
    exact ⟨rfl, rfl⟩
  · have hc : chk k h i = fsum (bl (h ++ i)) := by unfold chk; rw [if_neg hk]
    have hk5 : ((k : Int) == 5) = false := by rw [beq_eq_false_iff_ne]; omega
    have hq : ¬ 9223372036854775807 < h.size + i.size := by omega
    have HS := hide (fun W (h8 : Half W) => fsum_any (h ++ i) W h8 (by rw [ByteArray.size_append]; unfold maxLen; omega))
    rw [hc] at hl ⊢
    clear hc
    go_enter Tryd.func37, Tryd.ntmps37
    go_wp2_with fail
    refine (HS.out _ hf).mono ?_
    rintro e w' ⟨rfl, rfl⟩
    go_wp2
    go_ret
    exact ⟨rfl, rfl⟩

end Go.Proofs.YtnnimkailajgaaaDoor.Bs
