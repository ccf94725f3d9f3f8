/- The walks of fcs.Mend, of the reference's Turned and Mend, and of partylinekit.Pick. -/
import Derived.Test.YtphmikaeenkdoaaDoorFcsRegs
import Derived.Test.YtphmikaeenkdoaaDoorBytes
namespace Go.Proofs.YtphmikaeenkdoaaDoor
open Go.RowKit
set_option linter.unusedVariables false
set_option linter.unusedSimpArgs false

/-- The register of a turned bit alone: where it stands, and so many bytes on. -/
def mv (m : Nat) : Nat → Nat
  | 0 => 0
  | t + 1 => zrs (t + 1) (2 ^ m)
theorem two_pow_lt {m : Nat} (h : m < 8) : 2 ^ m < 256 := (show ∀ m, m < 8 → 2 ^ m < 256 by decide) m h
theorem two_pow_mod {m : Nat} (h : m < 8) : (2 : Int) ^ m % 256 = ((2 ^ m : Nat) : Int) := (show ∀ m : Nat, m < 8 → (2 : Int) ^ m % 256 = ((2 ^ m : Nat) : Int) by decide) m h
theorem mv_lt {m : Nat} (h : m < 8) (t : Nat) : mv m t < 256 := by
  cases t with
  | zero => show (0 : Nat) < 256; omega
  | succ t => exact zrs_lt _ _ (two_pow_lt h)
theorem mv_one (m : Nat) : mv m 1 = fS (0 ^^^ 2 ^ m) := by rw [Nat.zero_xor]; rfl
theorem mv_succ (m t : Nat) : mv m (t + 2) = fS (mv m (t + 1) ^^^ 0) := by rw [Nat.xor_zero]; exact zrs_succ _ _

/-- What Mend answers. -/
def fmend (n : Nat) (bit : Int) : Nat := if 0 ≤ bit ∧ bit / 8 < n then mv (bit % 8).toNat (n - (bit / 8).toNat) else 0

set_option maxHeartbeats 400000 in
theorem mend_in (s : ByteArray) (j m : Nat) (w : World) (hh : Half w) (hs : s.size ≤ maxLen) (hj : j < s.size) (hm : m < 8) (hb : 8 * (j : Int) + m ≤ 9223372036854775807) :
    Calls Tryd.prog 17 #[.string s, .int .i64 (8 * (j : Int) + m)] w fun e w' => e = .returned (.int .u8 (mv m (s.size - j) : Nat)) ∧ w = w' := by
  unfold maxLen at hs
  have hq : (8 * (j : Int) + m) / 8 = j := by omega
  have hr : (8 * (j : Int) + m) % 8 = m := by omega
  have h0 : ¬ (8 * (j : Int) + m) < 0 := by omega
  have HM := hide hm
  go_enter Tryd.func17, Tryd.ntmps17
  go_wp2
  obtain ⟨p, hp, hp2, hp3⟩ : ∃ p : Nat, (2 : Int) ^ m % 256 = (p : Int) ∧ p < 256 ∧ Hid (p = 2 ^ m) := by
    have h := two_pow_lt hm
    exact ⟨2 ^ m, two_pow_mod hm, h, rfl⟩
  go_loop [5, 6] (fun r i => ∃ t : Nat, j + t ≤ s.size ∧ i = .int .i64 (j + t : Nat) ∧ r = .int .u8 (mv m t : Nat)) (fun _ i => s.size - (intOf i).toNat)
  case atStart => exact ⟨0, by omega, by go_num, rfl⟩
  case round =>
    obtain ⟨t, ht, rfl, rfl⟩ := hrel
    have hm2 := mv_lt hm t
    by_cases hlt : j + t < s.size
    · by_cases h0t : t = 0
      · subst h0t
        have ht0 : (((j + 0 : Nat) : Int) == (j : Int)) = true := by rw [beq_iff_eq]; omega
        go_wp2_with (go_at_call 10; refine (fstep_any _ _ _ hh (by omega) (by omega) (by omega) (by omega)).mono ?_; rintro e w' ⟨rfl, rfl⟩)
        go_round
        case rel => exact ⟨1, by omega, by go_num, by rw [mv_one, ← hp3.out]; rfl⟩
        case measure => simp [intOf]; omega
      · have ht0 : (((j + t : Nat) : Int) == (j : Int)) = false := by rw [beq_eq_false_iff_ne]; omega
        have hs1 : mv m (t + 1) = fS (mv m t ^^^ 0) := by
          obtain ⟨t', rfl⟩ : ∃ t', t = t' + 1 := ⟨t - 1, by omega⟩
          exact mv_succ m t'
        obtain ⟨y, hy⟩ : ∃ y, mv m t = y := ⟨_, rfl⟩
        rw [hy] at hs1 hm2 ⊢
        have H1 := hide hs1
        clear hs1 hy
        go_wp2_with (go_at_call 10; refine (fstep_any _ _ _ hh (by omega) (by omega) (by omega) (by omega)).mono ?_; rintro e w' ⟨rfl, rfl⟩)
        go_round
        case rel => exact ⟨t + 1, by omega, by go_num, by rw [H1.out, Nat.xor_zero]⟩
        case measure => simp [intOf]; omega
    · go_wp2
      go_ret
      exact ⟨ret_int (by rw [show s.size - j = t by omega]), rfl⟩

set_option maxHeartbeats 400000 in
theorem mend_out (s : ByteArray) (bit : Int) (w : World) (hs : s.size ≤ maxLen) (h1 : -9223372036854775808 ≤ bit) (h2 : bit ≤ 9223372036854775807) (ho : bit < 0 ∨ 8 * (s.size : Int) ≤ bit) :
    Calls Tryd.prog 17 #[.string s, .int .i64 bit] w fun e w' => e = .returned (.int .u8 0) ∧ w = w' := by
  unfold maxLen at hs
  by_cases hn : bit < 0
  · go_enter Tryd.func17, Tryd.ntmps17
    go_wp2
    go_ret
    exact ⟨rfl, rfl⟩
  · have hq : (s.size : Int) ≤ bit / 8 := by omega
    go_enter Tryd.func17, Tryd.ntmps17
    go_wp2
    go_ret
    exact ⟨rfl, rfl⟩

theorem mend_any (s : ByteArray) (bit : Int) (w : World) (hh : Half w) (hs : s.size ≤ maxLen) (h1 : -9223372036854775808 ≤ bit) (h2 : bit ≤ 9223372036854775807) :
    Calls Tryd.prog 17 #[.string s, .int .i64 bit] w fun e w' => e = .returned (.int .u8 (fmend s.size bit : Nat)) ∧ w = w' := by
  by_cases hin : 0 ≤ bit ∧ bit / 8 < s.size
  · have e : bit = 8 * ((bit / 8).toNat : Int) + ((bit % 8).toNat : Nat) := by omega
    have h := mend_in s (bit / 8).toNat (bit % 8).toNat w hh hs (by omega) (by omega) (by omega)
    rw [← e] at h
    unfold fmend
    rw [if_pos hin]
    exact h
  · have h := mend_out s bit w hs h1 h2 (by omega)
    unfold fmend
    rw [if_neg hin]
    exact h

/-- A text with a byte exchanged. -/
def setByte (s : ByteArray) (j : Nat) (v : Nat) : ByteArray := ⟨(s.data.toList.set j (UInt8.ofNat v)).toArray⟩
theorem setByte_bl (s : ByteArray) (j v : Nat) (hv : v < 256) : bl (setByte s j v) = (bl s).set j v := by
  unfold bl setByte
  rw [List.map_set]
  congr 1
  simp
  omega
theorem setByte_size (s : ByteArray) (j v : Nat) : (setByte s j v).size = s.size := by
  rw [← bl_length, ← bl_length]; simp [bl, setByte]

theorem set_cells {w1 : World} {g j v : Nat} {s : ByteArray} (hv : v < 256) (hj : j < s.size)
    (hc : ∀ k, (hk : k < s.size) → w1.cell? ⟨g, k, none⟩ = some (.int .u8 (s[k].toNat : Nat)) ∧ w1.frozen? ⟨g, k, none⟩ = false)
    (L : List UInt8) (hL : L = s.data.toList.set j (UInt8.ofNat v)) :
    ∀ k, (hk : k < L.length) → (w1.setCell ⟨g, j, none⟩ (.int .u8 (v : Nat))).cell? ((⟨g, 0, none⟩ : Addr).add k) = some (.int .u8 (L[k].toNat : Nat)) := by
  subst hL
  intro k hk
  have hks : k < s.size := by rw [List.length_set, Array.length_toList] at hk; exact hk
  rw [show (⟨g, 0, none⟩ : Addr).add k = ⟨g, k, none⟩ by unfold Addr.add; split <;> simp_all]
  by_cases he : j = k
  · subst he
    rw [World.cell?_setCell_same _ _ _ (hc j hks).1]
    simp
    omega
  · rw [World.cell?_setCell_other _ _ _ _ (by simp [he]), (hc k hks).1]
    rw [List.getElem_set_ne he]
    rfl

theorem bl_getD (s : ByteArray) (j : Nat) (hj : j < s.size) : (bl s).getD j 0 = s[j].toNat := by
  have h1 : j < s.data.size := hj
  unfold bl
  rw [List.getD, List.getElem?_map, Array.getElem?_toList, Array.getElem?_eq_getElem h1]
  rfl

set_option maxHeartbeats 1000000 in
theorem turned_in (s : ByteArray) (j m : Nat) (w : World) (hs : s.size ≤ maxLen) (hj : j < s.size) (hm : m < 8) (hb : 8 * (j : Int) + m ≤ 9223372036854775807) :
    Calls Tryd.prog 20 #[.string s, .int .i64 (8 * (j : Int) + m)] w fun e w' =>
      e = .returned (.tuple #[.string (setByte s j ((bl s).getD j 0 ^^^ 2 ^ m)), .bool true]) ∧ Below w.heap.size w w' := by
  unfold maxLen at hs
  have hq : (8 * (j : Int) + m) / 8 = j := by omega
  have hr : (8 * (j : Int) + m) % 8 = m := by omega
  have h0 : ¬ (8 * (j : Int) + m) < 0 := by omega
  rw [bl_getD s j hj]
  obtain ⟨p, hp, hp2, hp3⟩ : ∃ p : Nat, (2 : Int) ^ m % 256 = (p : Int) ∧ p < 256 ∧ Hid (2 ^ m = p) := by
    have h := two_pow_lt hm
    exact ⟨2 ^ m, two_pow_mod hm, h, hide rfl⟩
  rw [hp3.out]
  obtain ⟨y, hy, hy2⟩ : ∃ y : Nat, Hid (s[j].toNat = y) ∧ y < 256 := ⟨_, hide rfl, s[j].toNat_lt⟩
  rw [hy.out]
  obtain ⟨v, hv, hv2⟩ : ∃ v : Nat, y ^^^ p = v ∧ v < 256 := ⟨_, rfl, xor_lt hy2 hp2⟩
  have hx : bits .xor .u8 (y : Int) (p : Int) = ((y ^^^ p : Nat) : Int) := u8_xor_nat y p hy2 hp2
  rw [hv] at hx ⊢
  obtain ⟨L, hL⟩ : ∃ L, L = s.data.toList.set j (UInt8.ofNat v) := ⟨_, rfl⟩
  have hfin : setByte s j v = ⟨L.toArray⟩ := by rw [hL]; rfl
  have hlen : L.length = s.size := by rw [hL, List.length_set, Array.length_toList]; rfl
  rw [hfin]
  have HM := hide hm
  have HL := hide hlen
  have HL2 := hide hL
  clear hlen hL hfin hv
  go_enter Tryd.func20, Tryd.ntmps20
  go_wp2_with (with_reducible refine wpList_to_bytes (o := ⟨some 18, _, _, _, _, _⟩) _ rfl _ 9 30 5 rfl Tryd.underlying9 Tryd.underlying30 Tryd.underlying5 s rfl ?_)
  intro cap w1 hcap hsz hbel hcells
  have HC := hide hcells
  obtain ⟨hc1, hf1⟩ := hcells j hj
  rw [hy.out] at hc1
  have HS := hide hsz
  clear hcells hsz
  go_wp2
  go_region
  all_goals go_wp2_with (with_reducible refine wpList_of_bytes (o := ⟨some 33, _, _, _, _, _⟩) _ rfl _ 30 9 5 rfl Tryd.underlying30 Tryd.underlying5 Tryd.underlying9 _ _ _ L HL.out rfl ?hc ?_)
  case hc => exact fun _ => ⟨_, rfl, set_cells (w1 := w1) hv2 hj HC.out L HL2.out⟩
  go_ret2
  exact ⟨rfl, ((hbel.setCell (p := ⟨w.heap.size, j, none⟩) (Nat.le_refl _) _)).drew⟩

set_option maxHeartbeats 400000 in
theorem turned_out (s : ByteArray) (bit : Int) (w : World) (hs : s.size ≤ maxLen) (h1 : -9223372036854775808 ≤ bit) (h2 : bit ≤ 9223372036854775807) (ho : bit < 0 ∨ 8 * (s.size : Int) ≤ bit) :
    Calls Tryd.prog 20 #[.string s, .int .i64 bit] w fun e w' => e = .returned (.tuple #[.string s, .bool false]) ∧ Below w.heap.size w w' := by
  unfold maxLen at hs
  by_cases hn : bit < 0
  · go_enter Tryd.func20, Tryd.ntmps20
    go_wp2
    go_ret2
    exact ⟨rfl, Below.refl _ _⟩
  · have hq : (s.size : Int) ≤ bit / 8 := by omega
    go_enter Tryd.func20, Tryd.ntmps20
    go_wp2
    go_ret2
    exact ⟨rfl, Below.refl _ _⟩

end Go.Proofs.YtphmikaeenkdoaaDoor
