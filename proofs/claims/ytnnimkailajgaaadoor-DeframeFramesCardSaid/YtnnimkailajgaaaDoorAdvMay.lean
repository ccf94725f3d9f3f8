/- Frames of the advanced option: which may be, how much they hold, what their check covers: the walks. -/
import Derived.Test.YtnnimkailajgaaaDoorFieldTests
import Derived.Deep.RegionHeld3
import Derived.Deep.DeepCutAuto
import Derived.Lib.Strings
namespace Go.Proofs.YtnnimkailajgaaaDoor
open Go.RowKit
set_option linter.unusedVariables false
set_option linter.unusedSimpArgs false

/-- May a frame be? -/
def mayOk (d : Nat) (c : Bool) (k s r : Nat) (i : ByteArray) : Bool := putOk k s r && decide (d ≤ 63) && mayF k c && (decide (i.size = 0) || carr k)
def room (n1 : Int) : Int := max 0 (min n1 128)
/-- What the check covers. -/
def cov (k : Nat) (s : ByteArray) : ByteArray := if k = 5 then s.extract 0 2 else s

theorem empty_of (s : ByteArray) (h : s.size = 0) : s = ⟨#[]⟩ := by
  apply ByteArray.ext
  exact Array.eq_empty_of_size_eq_zero (by have : s.size = s.data.size := rfl; omega)
theorem ne_empty (s : ByteArray) (h0 : 0 < s.size) : ¬ s.toList = [] ∧ s.toList.isEmpty = false := by
  have hne : ¬ s.toList = [] := fun e => by
    rw [Lib.toList_data] at e
    have := Lib.size_eq s
    rw [e] at this
    simp only [List.length_nil] at this
    omega
  exact ⟨hne, by cases hl : s.toList with | nil => exact absurd hl hne | cons _ _ => rfl⟩

theorem fput_no (k : Nat) (p : Bool) (s r : Nat) (w : World) (hh : Octs w) (h1 : k ≤ 255) (h2 : s ≤ 255) (h3 : r ≤ 255) (h : putOk k s r = false) :
    Calls Tryd.prog 31 #[.int .u8 (k : Int), .bool p, .int .u8 (s : Int), .int .u8 (r : Int)] w fun e w' => e = .returned (.tuple #[.int .u8 0, .int .i64 2]) ∧ w = w' := by
  have := fput_any k p s r w hh h1 h2 h3
  unfold putR putV putE at this
  rw [h] at this
  exact this
theorem fput_yes (k : Nat) (p : Bool) (s r : Nat) (w : World) (hh : Octs w) (h1 : k ≤ 255) (h2 : s ≤ 255) (h3 : r ≤ 255) (h : putOk k s r = true) :
    Calls Tryd.prog 31 #[.int .u8 (k : Int), .bool p, .int .u8 (s : Int), .int .u8 (r : Int)] w fun e w' => e = .returned (.tuple #[.int .u8 (putN k p s r : Nat), .int .i64 0]) ∧ w = w' := by
  have := fput_any k p s r w hh h1 h2 h3
  rw [putR_ok p h] at this
  exact this
set_option maxHeartbeats 4000000 in
theorem may_any (d k s r : Nat) (c p : Bool) (i : ByteArray) (w : World) (hh : Octs w) (h0 : d ≤ 255) (h1 : k ≤ 255) (h2 : s ≤ 255) (h3 : r ≤ 255) :
    Calls Tryd.prog 25 #[.agg #[.int .u8 (d : Int), .bool c, .int .u8 (k : Int), .bool p, .int .u8 (s : Int), .int .u8 (r : Int), .string i]] w fun e w' => e = .returned (.tuple #[.int .u8 (putV k p s r : Nat), .bool (mayOk d c k s r i)]) ∧ Below w.heap.size w w' := by
  have HH := fun W (hb : Below w.heap.size w W) => hh.below hb
  have HO := hide HH
  clear HH hh
  cases hp : putOk k s r with
  | false =>
    have e1 : mayOk d c k s r i = false := by unfold mayOk; rw [hp]; rfl
    have e2 : putV k p s r = 0 := by unfold putV; rw [hp]; rfl
    rw [e1, e2]
    have HP := hide hp
    clear e1 e2 hp
    go_enter Tryd.func25, Tryd.ntmps25
    go_wp2_with fail
    refine (fput_no k p s r _ (HO.out _ ((Below.refl _ _).alloc (Nat.le_refl _) _)) h1 h2 h3 HP.out).mono ?_
    rintro e w' ⟨rfl, rfl⟩
    go_wp2
    go_ret2
    exact ⟨rfl, (Below.refl _ _).alloc (Nat.le_refl _) _⟩
  | true =>
    have e2 : putV k p s r = putN k p s r := by unfold putV; rw [hp]; rfl
    rw [e2]
    have HP := hide hp
    have HE := hide (show mayOk d c k s r i = (decide (d ≤ 63) && mayF k c && (decide (i.size = 0) || carr k)) by unfold mayOk; rw [hp]; rfl)
    clear e2 hp
    have hc1 := fun w => fmay_any k c w h1
    have hc2 := fun w => fcarries_any k w h1
    by_cases hd : d ≤ 63
    · cases hm : mayF k c with
      | false =>
        have e1 : mayOk d c k s r i = false := by rw [HE.out, decide_eq_true hd, hm]; rfl
        rw [hm] at hc1
        rw [e1]
        have HC := hide hc1
        clear e1 hm hc1 hc2 HE
        go_enter Tryd.func25, Tryd.ntmps25
        go_wp2_with fail
        refine (fput_yes k p s r _ (HO.out _ ((Below.refl _ _).alloc (Nat.le_refl _) _)) h1 h2 h3 HP.out).mono ?_
        rintro e w' ⟨rfl, rfl⟩
        go_wp2_with fail
        refine (HC.out _).mono ?_
        rintro e w' ⟨rfl, rfl⟩
        go_wp2
        go_ret2
        exact ⟨rfl, (Below.refl _ _).alloc (Nat.le_refl _) _⟩
      | true =>
        rw [hm] at hc1
        have HC := hide hc1
        have HD := hide hc2
        have HM := hide hm
        clear hm hc1 hc2
        by_cases h0i : i.size = 0
        · have e1 : mayOk d c k s r i = true := by rw [HE.out, decide_eq_true hd, HM.out, decide_eq_true h0i]; rfl
          rw [e1]
          obtain rfl := empty_of i h0i
          clear e1 HE h0i
          go_enter Tryd.func25, Tryd.ntmps25
          go_wp2_with fail
          refine (fput_yes k p s r _ (HO.out _ ((Below.refl _ _).alloc (Nat.le_refl _) _)) h1 h2 h3 HP.out).mono ?_
          rintro e w' ⟨rfl, rfl⟩
          go_wp2_with fail
          refine (HC.out _).mono ?_
          rintro e w' ⟨rfl, rfl⟩
          go_wp2
          go_ret2
          exact ⟨rfl, (Below.refl _ _).alloc (Nat.le_refl _) _⟩
        · have e1 : mayOk d c k s r i = carr k := by rw [HE.out, decide_eq_true hd, HM.out, decide_eq_false h0i]; rfl
          rw [e1]
          obtain ⟨hne, hem⟩ := ne_empty i (by omega)
          generalize carr k = C at *
          clear e1 HE h0i
          go_enter Tryd.func25, Tryd.ntmps25
          go_wp2_with fail
          refine (fput_yes k p s r _ (HO.out _ ((Below.refl _ _).alloc (Nat.le_refl _) _)) h1 h2 h3 HP.out).mono ?_
          rintro e w' ⟨rfl, rfl⟩
          go_wp2_with fail
          refine (HC.out _).mono ?_
          rintro e w' ⟨rfl, rfl⟩
          go_wp2_with fail
          refine (HD.out _).mono ?_
          rintro e w' ⟨rfl, rfl⟩
          go_wp2
          go_ret2
          exact ⟨rfl, (Below.refl _ _).alloc (Nat.le_refl _) _⟩
    · have e1 : mayOk d c k s r i = false := by rw [HE.out, decide_eq_false hd]; rfl
      rw [e1]
      clear e1 HE hc1 hc2
      go_enter Tryd.func25, Tryd.ntmps25
      go_wp2_with fail
      refine (fput_yes k p s r _ (HO.out _ ((Below.refl _ _).alloc (Nat.le_refl _) _)) h1 h2 h3 HP.out).mono ?_
      rintro e w' ⟨rfl, rfl⟩
      go_wp2
      go_ret2
      exact ⟨rfl, (Below.refl _ _).alloc (Nat.le_refl _) _⟩

theorem room_any (n1 : Int) (w : World) : Calls Tryd.prog 26 #[.int .i64 n1] w fun e w' => e = .returned (.int .i64 (room n1)) ∧ w = w' := by
  go_enter Tryd.func26, Tryd.ntmps26
  go_wp2
  all_goals
    go_ret
    exact ⟨ret_int (by unfold room; omega), rfl⟩
theorem covered_any (k : Nat) (s : ByteArray) (w : World) (h : 2 ≤ s.size) (hs : s.size ≤ 1000000) : Calls Tryd.prog 30 #[.int .u8 (k : Int), .string s] w fun e w' => e = .returned (.string (cov k s)) ∧ w = w' := by
  by_cases hk : k = 5
  · have hc : cov k s = s.extract 0 2 := by unfold cov; rw [if_pos hk]
    subst hk
    rw [hc]
    go_enter Tryd.func30, Tryd.ntmps30
    go_wp2
    go_ret
    exact ⟨rfl, rfl⟩
  · have hc : cov k s = s := by unfold cov; rw [if_neg hk]
    have hk5 : ((k : Int) == 5) = false := by rw [beq_eq_false_iff_ne]; omega
    rw [hc]
    go_enter Tryd.func30, Tryd.ntmps30
    go_wp2
    go_ret
    exact ⟨rfl, rfl⟩
end Go.Proofs.YtnnimkailajgaaaDoor
