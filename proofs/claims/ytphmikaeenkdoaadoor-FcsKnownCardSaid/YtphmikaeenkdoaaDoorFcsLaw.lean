/- Plain facts on Sum and a turned bit; the walks of the reference's Mend, of Pick, and of chapter 01's examples. -/
import Derived.Test.YtphmikaeenkdoaaDoorFcsMend
namespace Go.Proofs.YtphmikaeenkdoaaDoor
open Go.RowKit
set_option linter.unusedVariables false
set_option linter.unusedSimpArgs false

theorem not_xor {y : Nat} (h : y < 256) : 255 - y = 255 ^^^ y := (show ∀ y, y < 256 → 255 - y = 255 ^^^ y by decide +kernel) y h
theorem fsum_xor {l : List Nat} (hl : Bytes l) : fsum l = 255 ^^^ reg 255 l := not_xor (reg_lt _ _ (by omega) hl)
theorem fsum_xor2 {l m : List Nat} (hl : Bytes l) (hm : Bytes m) : fsum l ^^^ fsum m = reg 255 l ^^^ reg 255 m := by
  rw [fsum_xor hl, fsum_xor hm, show (255 ^^^ reg 255 l) ^^^ (255 ^^^ reg 255 m) = (255 ^^^ 255) ^^^ (reg 255 l ^^^ reg 255 m) by ac_rfl, Nat.xor_self, Nat.zero_xor]
theorem Bytes.set {l : List Nat} (h : Bytes l) (j v : Nat) (hv : v < 256) : Bytes (l.set j v) := by
  intro b hb
  rcases List.mem_or_eq_of_mem_set hb with h1 | h1
  · exact h b h1
  · omega
theorem Bytes.getD {l : List Nat} (h : Bytes l) (j : Nat) : l.getD j 0 < 256 := by
  by_cases hj : j < l.length
  · rw [List.getD, List.getElem?_eq_getElem hj]; exact h _ (List.getElem_mem hj)
  · rw [List.getD, List.getElem?_eq_none (by omega)]; show (0 : Nat) < 256; omega
theorem Bytes.append {l m : List Nat} (h : Bytes l) (k : Bytes m) : Bytes (l ++ m) := by
  intro b hb
  rcases List.mem_append.1 hb with h1 | h1
  · exact h b h1
  · exact k b h1
theorem fsum_set {l : List Nat} (hl : Bytes l) (j v : Nat) (hj : j < l.length) (hv : v < 256) :
    fsum l ^^^ fsum (l.set j v) = zrs (l.length - j) (l.getD j 0 ^^^ v) := by
  rw [fsum_xor2 hl (hl.set j v hv)]
  have e1 : l = l.take j ++ l.getD j 0 :: l.drop (j + 1) := by
    rw [List.getD, List.getElem?_eq_getElem hj]
    show l = l.take j ++ l[j] :: l.drop (j + 1)
    rw [← List.drop_eq_getElem_cons hj, List.take_append_drop]
  have e2 : l.set j v = l.take j ++ v :: l.drop (j + 1) := List.set_eq_take_append_cons_drop.trans (if_pos hj)
  rw [e2]
  conv => lhs; arg 1; rw [e1]
  rw [reg_turn, show l.length - j = (l.drop (j + 1)).length + 1 by rw [List.length_drop]; omega]
  rfl
theorem fmend_in {n j m : Nat} (hj : j < n) (hm : m < 8) : fmend n (8 * (j : Int) + m) = zrs (n - j) (2 ^ m) := by
  unfold fmend
  rw [if_pos ⟨by omega, by omega⟩, show ((8 * (j : Int) + m) % 8).toNat = m by omega, show ((8 * (j : Int) + m) / 8).toNat = j by omega]
  obtain ⟨t, ht⟩ : ∃ t, n - j = t + 1 := ⟨n - j - 1, by omega⟩
  rw [ht]; rfl
theorem fmend_set {l : List Nat} (hl : Bytes l) {j m : Nat} (hj : j < l.length) (hm : m < 8) :
    fsum l ^^^ fsum (l.set j (l.getD j 0 ^^^ 2 ^ m)) = fmend l.length (8 * (j : Int) + m) := by
  rw [fsum_set hl j _ hj (xor_lt (hl.getD j) (two_pow_lt hm)), xor_self_cancel, fmend_in hj hm]
theorem fmend_out {n : Nat} {bit : Int} (ho : bit < 0 ∨ 8 * (n : Int) ≤ bit) : fmend n bit = 0 := by
  unfold fmend
  rw [if_neg (by omega)]

set_option maxHeartbeats 400000 in
theorem rmend_any (s : ByteArray) (bit : Int) (w : World) (hs : s.size ≤ maxLen) (h1 : -9223372036854775808 ≤ bit) (h2 : bit ≤ 9223372036854775807) :
    Calls Tryd.prog 18 #[.string s, .int .i64 bit] w fun e w' => e = .returned (.int .u8 (fmend s.size bit : Nat)) ∧ Below w.heap.size w w' := by
  by_cases ho : bit < 0 ∨ 8 * (s.size : Int) ≤ bit
  · rw [fmend_out ho]
    go_enter Tryd.func18, Tryd.ntmps18
    go_wp2_with (go_at_call 20; refine (turned_out _ _ _ hs h1 h2 ho).mono ?_; rintro e w1 ⟨rfl, hb⟩)
    go_ret
    exact ⟨rfl, hb⟩
  · obtain ⟨j, m, hj, hm, rfl⟩ : ∃ j m : Nat, j < s.size ∧ m < 8 ∧ bit = 8 * (j : Int) + m := ⟨(bit / 8).toNat, (bit % 8).toNat, by omega, by omega, by omega⟩
    have hf := fmend_set (bl_bytes s) (j := j) (m := m) (by rw [bl_length]; exact hj) hm
    rw [bl_length] at hf
    have hy := (bl_bytes s).getD j
    have hsz := setByte_size s j ((bl s).getD j 0 ^^^ 2 ^ m)
    have hbl := setByte_bl s j ((bl s).getD j 0 ^^^ 2 ^ m) (xor_lt hy (two_pow_lt hm))
    obtain ⟨z, hz⟩ : ∃ z, (bl s).getD j 0 ^^^ 2 ^ m = z := ⟨_, rfl⟩
    rw [hz] at hf hsz hbl
    rw [← hbl] at hf
    have hx := u8_xor_nat (fsum (bl s)) (fsum (bl (setByte s j z))) (fsum_lt _) (fsum_lt _)
    rw [hf] at hx
    have HZ := hide hz
    have hszl : (setByte s j z).size ≤ maxLen := by rw [hsz]; exact hs
    clear hf hsz hbl hz
    go_enter Tryd.func18, Tryd.ntmps18
    go_wp2_with fail
    refine (turned_in _ _ _ _ hs hj hm (by omega)).mono ?_
    rw [HZ.out]
    rintro e w1 ⟨rfl, hb⟩
    go_wp2_with fail
    refine (rfsum_any _ _ hs).mono ?_
    rintro e w2 ⟨rfl, rfl⟩
    go_wp2_with fail
    refine (rfsum_any _ _ hszl).mono ?_
    rintro e w2 ⟨rfl, rfl⟩
    go_wp2
    go_ret
    exact ⟨rfl, hb⟩

/-- Pick: a number brought into bounds. -/
theorem pick_num (i n : Int) (h : 0 < n) (hn : n ≤ 4611686018427387904) (h1 : -9223372036854775808 ≤ i) (h2 : i ≤ 9223372036854775807) :
    (-n < i.tmod n ∧ i.tmod n < n) ∧ i.tmod n % n = i % n ∧ 0 ≤ i.tmod n + n := by
  have e1 := Int.tmod_eq_emod (a := i) (b := n)
  have e2 := Int.emod_nonneg i (b := n) (by omega)
  have e3 := Int.emod_lt_of_pos i h
  have e4 : (n.natAbs : Int) = n := by omega
  have hc : i.tmod n = i % n ∨ (i.tmod n = i % n - n ∧ i % n ≠ 0) := by
    rw [e1]
    split
    · left; omega
    · rename_i hd
      right
      exact ⟨by omega, fun h0 => hd (Or.inr (Int.dvd_of_emod_eq_zero h0))⟩
  refine ⟨by rcases hc with h | ⟨h, _⟩ <;> omega, ?_, by rcases hc with h | ⟨h, _⟩ <;> omega⟩
  rcases hc with h | ⟨h, _⟩
  · rw [h, Int.emod_emod]
  · rw [h, Int.sub_emod_right, Int.emod_emod]

set_option maxHeartbeats 400000 in
theorem pick_any (i n : Int) (w : World) (h : 0 < n) (hn : n ≤ 4611686018427387904) (h1 : -9223372036854775808 ≤ i) (h2 : i ≤ 9223372036854775807) :
    Calls Tryd.prog 19 #[.int .i64 i, .int .i64 n] w fun e w' => e = .returned (.int .i64 (i % n)) ∧ w = w' := by
  obtain ⟨⟨p1, p2⟩, p3, p4⟩ := pick_num i n h hn h1 h2
  have h0 : ¬ n ≤ 0 := by omega
  have P3 := hide p3
  clear p3
  go_enter Tryd.func19, Tryd.ntmps19
  go_wp2
  go_ret
  exact ⟨ret_int P3.out, rfl⟩

set_option maxHeartbeats 1000000 in
theorem works_any (w : World) (hh : Half w) :
    Calls Tryd.prog 12 #[] w fun e w' => e = .returned (.bool true) ∧ Below w.heap.size w w' := by
  go_enter Tryd.func12, Tryd.ntmps12
  have e1 : fsum (bl ⟨#[3, 63, 1]⟩) = 28 := by decide
  have e2 : fsum (bl ⟨#[]⟩) = 0 := by decide
  have e3 : (reg 255 (bl ⟨#[3, 63, 1, 28]⟩) == 207) = true := by decide
  have e4 : (reg 255 (bl ⟨#[3, 63, 1, 29]⟩) == 207) = false := by decide
  have e5 : fmend 3 23 = 224 := by decide
  have e6 : fS 255 = 207 := by decide
  have e7 : fS 1 = 145 := by decide
  go_wp2_with fail
  refine (fsum_any _ _ hh (by decide)).mono ?_
  rw [e1]
  rintro e w' ⟨rfl, rfl⟩
  go_wp2_with fail
  refine (fsum_any _ _ hh (by decide)).mono ?_
  rw [e2]
  rintro e w' ⟨rfl, rfl⟩
  go_wp2_with fail
  refine (fgood_any _ _ hh (by decide)).mono ?_
  rw [e3]
  rintro e w' ⟨rfl, rfl⟩
  go_wp2_with fail
  refine (fgood_any _ _ hh (by decide)).mono ?_
  rw [e4]
  rintro e w' ⟨rfl, rfl⟩
  go_wp2_with fail
  refine (fstep_any _ _ _ hh (by omega) (by omega) (by omega) (by omega)).mono ?_
  rintro e w' ⟨rfl, rfl⟩
  go_wp2_with fail
  refine (fstep_any _ _ _ hh (by omega) (by omega) (by omega) (by omega)).mono ?_
  rintro e w' ⟨rfl, rfl⟩
  go_wp2_with fail
  refine (mend_any _ _ _ hh (by decide) (by omega) (by omega)).mono ?_
  rintro e w' ⟨rfl, rfl⟩
  go_wp2
  go_ret
  exact ⟨rfl, Below.refl _ _⟩

end Go.Proofs.YtphmikaeenkdoaaDoor
