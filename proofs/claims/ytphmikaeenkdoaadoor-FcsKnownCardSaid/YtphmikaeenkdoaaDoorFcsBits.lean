/- The walk of chapter 01's law FcsBits: it answers true. -/
import Derived.Test.YtphmikaeenkdoaaDoorFcsNear
namespace Go.Proofs.YtphmikaeenkdoaaDoor
open Go.RowKit
set_option linter.unusedVariables false
set_option linter.unusedSimpArgs false

theorem turned_any (s : ByteArray) (bit : Int) (w : World) (hs : s.size ≤ maxLen) (h0 : 0 ≤ bit) (h1 : bit < 8 * (s.size : Int)) (h2 : bit ≤ 9223372036854775807) :
    Calls Tryd.prog 20 #[.string s, .int .i64 bit] w fun e w' =>
      e = .returned (.tuple #[.string (setByte s (bit / 8).toNat ((bl s).getD (bit / 8).toNat 0 ^^^ 2 ^ (bit % 8).toNat)), .bool true]) ∧ Below w.heap.size w w' := by
  have e : bit = 8 * ((bit / 8).toNat : Int) + ((bit % 8).toNat : Nat) := by omega
  have h := turned_in s (bit / 8).toNat (bit % 8).toNat w hs (by omega) (by omega) (by omega)
  rw [← e] at h
  exact h

/-- What a turned bit of a text does, and of the text that it leaves. -/
theorem turned_fsum (s : ByteArray) (bit : Int) (h0 : 0 ≤ bit) (h1 : bit < 8 * (s.size : Int)) (t : ByteArray)
    (ht : t = setByte s (bit / 8).toNat ((bl s).getD (bit / 8).toNat 0 ^^^ 2 ^ (bit % 8).toNat)) :
    fsum (bl s) ^^^ fsum (bl t) = fmend s.size bit ∧ t.size = s.size := by
  have hy := xor_lt ((bl_bytes s).getD (bit / 8).toNat) (two_pow_lt (m := (bit % 8).toNat) (by omega))
  have e : bit = 8 * ((bit / 8).toNat : Int) + ((bit % 8).toNat : Nat) := by omega
  subst ht
  refine ⟨?_, setByte_size _ _ _⟩
  have hf := fmend_set (bl_bytes s) (j := (bit / 8).toNat) (m := (bit % 8).toNat) (by rw [bl_length]; omega) (by omega)
  rw [setByte_bl _ _ _ hy, hf, bl_length, ← e]
theorem fmend_pos {n : Nat} {bit : Int} (h0 : 0 ≤ bit) (h1 : bit < 8 * (n : Int)) : fmend n bit ≠ 0 := by
  have e : bit = 8 * ((bit / 8).toNat : Int) + ((bit % 8).toNat : Nat) := by omega
  rw [e, fmend_in (by omega) (by omega)]
  intro h
  have h2 := zrs_eq_zero (two_pow_lt (by omega)) h
  have : 0 < 2 ^ (bit % 8).toNat := Nat.two_pow_pos _
  omega
theorem fmend_shift (n k : Nat) (bit : Int) : 0 ≤ bit → fmend (k + n) (bit + 8 * (k : Int)) = fmend n bit := by
  intro h0
  unfold fmend
  by_cases h : bit / 8 < n
  · rw [if_pos ⟨by omega, by omega⟩, if_pos ⟨h0, h⟩, show (bit + 8 * (k : Int)) % 8 = bit % 8 by omega,
      show k + n - ((bit + 8 * (k : Int)) / 8).toNat = n - (bit / 8).toNat by omega]
  · rw [if_neg (by omega), if_neg (by omega)]
theorem fmend_lt (n : Nat) (bit : Int) : fmend n bit < 256 := by
  unfold fmend
  split
  · exact mv_lt (by omega) _
  · omega

theorem a_below {w w1 : World} {n : Nat} (h : Below (w.drewN n).heap.size (w.drewN n) w1) (B : Nat) (hB : B = w.heap.size := by rfl) : Below B w w1 := by
  subst hB
  exact ⟨h.os, h.tape, h.output, h.size, h.block⟩

set_option maxHeartbeats 2000000 in
theorem fcsBits_any (s t : ByteArray) (a b : Int) (w : World) (hh : Half w) (hs1 : s.size ≤ maxLen) (hs2 : t.size ≤ maxLen) (h1 : 0 ≤ a) (h2 : a ≤ 65535) (h3 : 0 ≤ b) (h4 : b ≤ 65535) :
    Calls Tryd.prog 8 #[.string s, .string t, .int .u16 a, .int .u16 b] w fun e w' => e = .returned (.bool true) ∧ Below w.heap.size w w' := by
  have hs1' : s.size ≤ 9223372036854775807 := by unfold maxLen at hs1; exact hs1
  have hs2' : t.size ≤ 9223372036854775807 := by unfold maxLen at hs2; exact hs2
  clear hs1 hs2
  by_cases hn0 : s.size = 0
  · have hz : ((s.size : Int) == 0) = true := by rw [beq_iff_eq]; omega
    clear hn0
    go_enter Tryd.func8, Tryd.ntmps8
    go_wp2_with (go_at_call 12; refine (works_any _ hh).mono ?_; rintro e w' ⟨rfl, hb⟩)
    go_ret
    exact ⟨rfl, hb⟩
  · have hz : ((s.size : Int) == 0) = false := by rw [beq_eq_false_iff_ne]; omega
    by_cases hn : 500 < s.size
    · go_enter Tryd.func8, Tryd.ntmps8
      go_wp2_with (go_at_call 12; refine (works_any _ hh).mono ?_; rintro e w' ⟨rfl, hb⟩)
      go_ret
      exact ⟨rfl, hb⟩
    · by_cases hn2 : 500 < t.size
      · go_enter Tryd.func8, Tryd.ntmps8
        go_wp2_with (go_at_call 12; refine (works_any _ hh).mono ?_; rintro e w' ⟨rfl, hb⟩)
        go_ret
        exact ⟨rfl, hb⟩
      · obtain ⟨x, hx, hx0, hx1⟩ : ∃ x : Int, a % (8 * (s.size : Int)) = x ∧ 0 ≤ x ∧ x < 8 * (s.size : Int) :=
          ⟨_, rfl, Int.emod_nonneg _ (by omega), Int.emod_lt_of_pos _ (by omega)⟩
        obtain ⟨y, hy, hy0, hy1⟩ : ∃ y : Int, b % (8 * (s.size : Int)) = y ∧ 0 ≤ y ∧ y < 8 * (s.size : Int) :=
          ⟨_, rfl, Int.emod_nonneg _ (by omega), Int.emod_lt_of_pos _ (by omega)⟩
        have hps : 0 < s.size := by omega
        clear hn0
        go_enter Tryd.func8, Tryd.ntmps8
        go_wp2_with fail
        go_quiet (fail)
        go_wp2_with fail
        refine (turned_any _ _ _ (by unfold maxLen; omega) hx0 hx1 (by omega)).mono ?_
        rintro e w1 ⟨rfl, hb1⟩
        obtain ⟨o, ho⟩ : ∃ o, setByte s (x / 8).toNat ((bl s).getD (x / 8).toNat 0 ^^^ 2 ^ (x % 8).toNat) = o := ⟨_, rfl⟩
        obtain ⟨hf1, hz1⟩ := turned_fsum s x hx0 hx1 o ho.symm
        rw [ho]
        have hw1 : Half w1 := hh.below (a_below hb1 _)
        have hbw1 : Below w.heap.size w w1 := a_below hb1 _
        clear hb1 ho
        go_wp2_with fail
        have hoy : y < 8 * (o.size : Int) := by rw [hz1]; exact hy1
        refine (turned_any _ _ _ (by rw [hz1]; unfold maxLen; omega) hy0 hoy (by omega)).mono ?_
        rintro e w2 ⟨rfl, hb2⟩
        obtain ⟨p, hp⟩ : ∃ p, setByte o (y / 8).toNat ((bl o).getD (y / 8).toNat 0 ^^^ 2 ^ (y % 8).toNat) = p := ⟨_, rfl⟩
        obtain ⟨hf2, hz2⟩ := turned_fsum o y hy0 hoy p hp.symm
        rw [hp]
        clear hp
        have hw2 : Half w2 := hw1.below hb2
        have hbw2 : Below w.heap.size w w2 := below_step hbw1 (Nat.le_refl _) hb2
        clear hb2 hw1 hbw1 hoy
        rw [hz1] at hf2 hz2
        obtain ⟨M, hM⟩ : ∃ M, fmend s.size x ^^^ fmend s.size y = M := ⟨_, rfl⟩
        have hsp : fsum (bl s) ^^^ fsum (bl p) = M := by
          rw [← hM, ← hf1, ← hf2, show (fsum (bl s) ^^^ fsum (bl o)) ^^^ (fsum (bl o) ^^^ fsum (bl p)) = (fsum (bl o) ^^^ fsum (bl o)) ^^^ (fsum (bl s) ^^^ fsum (bl p)) by ac_rfl, Nat.xor_self, Nat.zero_xor]
        have hxs := u8_xor_nat _ _ (fsum_lt (bl s)) (fsum_lt (bl p))
        have hxm := u8_xor_nat _ _ (fmend_lt s.size x) (fmend_lt s.size y)
        rw [hsp] at hxs
        rw [hM] at hxm
        have hne : (((fmend s.size x : Nat) : Int) == 0) = false := by
          rw [beq_eq_false_iff_ne]; have := fmend_pos hx0 hx1; omega
        have hsh := hide (fmend_shift s.size t.size x hx0)
        have HZ1 := hide hz1
        have HZ2 := hide hz2
        have hoz : o.size ≤ 500 := by omega
        have hpz : p.size ≤ 500 := by omega
        clear hf1 hf2 hz1 hz2 hM hsp
        go_wp2_with fail
        refine (fsum_any _ _ hw2 (by unfold maxLen; omega)).mono ?_
        rintro e w' ⟨rfl, rfl⟩
        go_wp2_with fail
        refine (fsum_any _ _ hw2 (by unfold maxLen; omega)).mono ?_
        rintro e w' ⟨rfl, rfl⟩
        go_wp2_with fail
        refine (mend_any _ _ _ hw2 (by unfold maxLen; omega) (by omega) (by omega)).mono ?_
        rintro e w' ⟨rfl, rfl⟩
        go_wp2_with fail
        refine (mend_any _ _ _ hw2 (by unfold maxLen; omega) (by omega) (by omega)).mono ?_
        rintro e w' ⟨rfl, rfl⟩
        go_wp2_with fail
        refine (mend_any _ _ _ hw2 (by unfold maxLen; omega) (by omega) (by omega)).mono ?_
        rintro e w' ⟨rfl, rfl⟩
        go_wp2_with fail
        refine (mend_any _ _ _ hw2 (by rw [ByteArray.size_append]; unfold maxLen; omega) (by omega) (by omega)).mono ?_
        rw [ByteArray.size_append, hsh.out]
        rintro e w' ⟨rfl, rfl⟩
        go_wp2_with fail
        refine (mend_any _ _ _ hw2 (by unfold maxLen; omega) (by omega) (by omega)).mono ?_
        rintro e w' ⟨rfl, rfl⟩
        go_wp2_with fail
        refine (mend_any _ _ _ hw2 (by unfold maxLen; omega) (by omega) (by omega)).mono ?_
        rw [HZ1.out]
        rintro e w' ⟨rfl, rfl⟩
        go_wp2_with fail
        refine (mend_any _ _ _ hw2 (by unfold maxLen; omega) (by omega) (by omega)).mono ?_
        rintro e w' ⟨rfl, rfl⟩
        go_wp2_with fail
        refine (works_any _ hw2).mono ?_
        rintro e w' ⟨rfl, hb⟩
        go_wp2
        go_ret
        exact ⟨rfl, below_step hbw2 (Nat.le_refl _) hb⟩

end Go.Proofs.YtphmikaeenkdoaaDoor
