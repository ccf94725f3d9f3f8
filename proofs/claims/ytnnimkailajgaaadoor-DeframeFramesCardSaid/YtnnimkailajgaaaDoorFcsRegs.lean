/- The walks of fcs.register, Sum, Good and of the reference's Register and Sum. -/
import Derived.Test.YtnnimkailajgaaaDoorFcsWalks
namespace Go.Proofs.YtnnimkailajgaaaDoor
open Go.RowKit
set_option linter.unusedVariables false
set_option linter.unusedSimpArgs false

/-- A text's bytes as numbers. -/
def bl (s : ByteArray) : List Nat := s.data.toList.map UInt8.toNat
theorem bl_length (s : ByteArray) : (bl s).length = s.size := by unfold bl; rw [List.length_map, Array.length_toList]; rfl
theorem bl_bytes (s : ByteArray) : Bytes (bl s) := by
  intro b hb
  obtain ⟨u, _, rfl⟩ := List.mem_map.1 hb
  exact u.toNat_lt
theorem bl_take (s : ByteArray) (k : Nat) (h : k < s.size) : (bl s).take (k + 1) = (bl s).take k ++ [s[k].toNat] := by
  rw [List.take_succ_eq_append_getElem (by rw [bl_length]; exact h)]
  congr 2
  simp [bl]; rfl

set_option maxHeartbeats 400000 in
theorem register_any (s : ByteArray) (w : World) (hh : Half w) (hs : s.size ≤ maxLen) :
    Calls Tryd.prog 45 #[.string s] w fun e w' => e = .returned (.int .u8 (reg 255 (bl s) : Nat)) ∧ w = w' := by
  unfold maxLen at hs
  have hr : ∀ k, reg 255 ((bl s).take k) < 256 := fun k => reg_lt _ _ (by omega) (fun b hb => bl_bytes s b (List.mem_of_mem_take hb))
  have HR := hide hr
  clear hr
  go_enter Tryd.func45, Tryd.ntmps45
  go_wp2
  go_loop [3, 7] (fun r i => ∃ k : Nat, k ≤ s.size ∧ i = .int .i64 k ∧ r = .int .u8 (reg 255 ((bl s).take k) : Nat)) (fun _ i => s.size - (intOf i).toNat)
  case atStart => exact ⟨0, by omega, rfl, rfl⟩
  case round =>
    obtain ⟨k, hk, rfl, rfl⟩ := hrel
    by_cases hlt : k < s.size
    · have hb := bl_take s k hlt
      have hs1 := reg_snoc 255 ((bl s).take k) s[k].toNat
      rw [← hb] at hs1
      have hy2 := HR.out k
      obtain ⟨y, hy⟩ : ∃ y, reg 255 ((bl s).take k) = y := ⟨_, rfl⟩
      rw [hy] at hs1 hy2 ⊢
      have H1 := hide hs1
      have hu := s[k].toNat_lt
      clear hs1 hy hb
      go_wp2_with (go_at_call 48; refine (fstep_any _ _ _ hh (by omega) (by omega) (by omega) (by omega)).mono ?_; rintro e w' ⟨rfl, rfl⟩)
      go_round
      case rel => exact ⟨k + 1, by omega, by go_num, by rw [H1.out]⟩
      case measure => simp [intOf]; omega
    · go_wp2
      go_ret
      exact ⟨ret_int (by rw [List.take_of_length_le (by rw [bl_length]; omega)]), rfl⟩

/-- The check of bytes. -/
def fsum (l : List Nat) : Nat := 255 - reg 255 l
theorem reg_bl_lt (s : ByteArray) : reg 255 (bl s) < 256 := reg_lt _ _ (by omega) (bl_bytes s)
theorem not_u8 (y : Nat) (h : y < 256) : bits .xor .u8 (IntKind.u8.max) (y : Int) = 255 - (y : Int) := by
  have h1 : IntKind.u8.max = ((255 : Nat) : Int) := by decide
  have h2 : 255 ^^^ y = 255 - y := (show ∀ y, y < 256 → 255 ^^^ y = 255 - y by decide +kernel) y h
  rw [h1, u8_xor_nat 255 y (by omega) h, h2]
  omega
theorem fsum_lt (l : List Nat) : fsum l < 256 := by unfold fsum; omega

set_option maxHeartbeats 400000 in
theorem fsum_any (s : ByteArray) (w : World) (hh : Half w) (hs : s.size ≤ maxLen) :
    Calls Tryd.prog 29 #[.string s] w fun e w' => e = .returned (.int .u8 (fsum (bl s) : Nat)) ∧ w = w' := by
  have hr := reg_bl_lt s
  have hn := not_u8 _ hr
  go_enter Tryd.func29, Tryd.ntmps29
  go_wp2_with (go_at_call 45; refine (register_any _ _ hh hs).mono ?_; rintro e w' ⟨rfl, rfl⟩)
  go_ret
  exact ⟨ret_int (by unfold fsum; omega), rfl⟩

end Go.Proofs.YtnnimkailajgaaaDoor
