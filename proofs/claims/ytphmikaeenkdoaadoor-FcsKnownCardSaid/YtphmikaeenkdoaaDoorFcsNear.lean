/- The walk of chapter 01's law FcsNear: it answers true. -/
import Derived.Test.YtphmikaeenkdoaaDoorFcsGood
namespace Go.Proofs.YtphmikaeenkdoaaDoor
open Go.RowKit
set_option linter.unusedVariables false
set_option linter.unusedSimpArgs false

theorem near_zero : ∀ b, b < 256 → ∀ k, k < 8 → fS (b * 2 ^ k % 256) = b * 2 ^ k / 256 → b = 0 := by decide +kernel
/-- Two bytes, side by side, turned. -/
theorem reg_near (ahead behind : List Nat) (x y lo hi r : Nat) :
    reg r (ahead ++ x :: y :: behind) ^^^ reg r (ahead ++ (x ^^^ lo) :: (y ^^^ hi) :: behind) = zrs behind.length (fS (fS lo ^^^ hi)) := by
  rw [reg_append, reg_append]
  generalize reg r ahead = q
  show reg (fS (fS (q ^^^ x) ^^^ y)) behind ^^^ reg (fS (fS (q ^^^ (x ^^^ lo)) ^^^ (y ^^^ hi))) behind = _
  have h := reg_turn [] behind (fS (q ^^^ x) ^^^ y) (fS (q ^^^ (x ^^^ lo)) ^^^ (y ^^^ hi)) 0
  simp only [List.nil_append, reg, Nat.zero_xor] at h
  rw [h]
  congr 2
  rw [show q ^^^ (x ^^^ lo) = (q ^^^ x) ^^^ lo by ac_rfl, fS_xor (q ^^^ x) lo,
    show fS (q ^^^ x) ^^^ y ^^^ (fS (q ^^^ x) ^^^ fS lo ^^^ (y ^^^ hi)) = (fS (q ^^^ x) ^^^ fS (q ^^^ x)) ^^^ (y ^^^ y) ^^^ (fS lo ^^^ hi) by ac_rfl, Nat.xor_self, Nat.xor_self, Nat.zero_xor, Nat.zero_xor]
theorem fsum_eq {l m : List Nat} (hl : Bytes l) (hm : Bytes m) : fsum l = fsum m ↔ reg 255 l ^^^ reg 255 m = 0 := by
  rw [← fsum_xor2 hl hm]
  exact ⟨fun h => by rw [h, Nat.xor_self], xor_eq_zero⟩
theorem bytes_two (ahead behind : List Nat) (x y : Nat) (ha : Bytes ahead) (hb : Bytes behind) (hx : x < 256) (hy : y < 256) : Bytes (ahead ++ x :: y :: behind) := by
  refine ha.append fun b hm => ?_
  simp only [List.mem_cons] at hm
  rcases hm with rfl | rfl | hm
  · exact hx
  · exact hy
  · exact hb b hm
theorem near_sum (ahead behind : List Nat) (x y b k : Nat) (ha : Bytes ahead) (hb : Bytes behind) (hx : x < 256) (hy : y < 256) (hbb : b < 256) (hk : k < 8) :
    fsum (ahead ++ x :: y :: behind) = fsum (ahead ++ (x ^^^ (b * 2 ^ k % 256)) :: (y ^^^ (b * 2 ^ k / 256)) :: behind) ↔ b = 0 := by
  have hlo : b * 2 ^ k % 256 < 256 := Nat.mod_lt _ (by omega)
  have hhi : b * 2 ^ k / 256 < 256 := (show ∀ b, b < 256 → ∀ k, k < 8 → b * 2 ^ k / 256 < 256 by decide +kernel) b hbb k hk
  rw [fsum_eq (bytes_two _ _ _ _ ha hb hx hy) (bytes_two _ _ _ _ ha hb (xor_lt hx hlo) (xor_lt hy hhi)), reg_near]
  constructor
  · intro h
    have h1 := zrs_eq_zero (fS_lt _ (xor_lt (fS_lt _ hlo) hhi)) h
    have h2 := fS_zero _ (xor_lt (fS_lt _ hlo) hhi) h1
    exact near_zero b hbb k hk (xor_eq_zero h2)
  · rintro rfl
    have : fS (0 * 2 ^ k % 256) ^^^ (0 * 2 ^ k / 256) = 0 := by rw [Nat.zero_mul]; decide
    rw [this]
    show zrs _ (fS 0) = 0
    rw [show fS 0 = 0 by decide, zrs_zero]
theorem bl_append (s t : ByteArray) : bl (s ++ t) = bl s ++ bl t := by unfold bl; rw [ByteArray.data_append]; simp
theorem bl_two (x y : Int) (h1 : 0 ≤ x) (h2 : x ≤ 255) (h3 : 0 ≤ y) (h4 : y ≤ 255) : bl ⟨#[UInt8.ofNat x.toNat, UInt8.ofNat y.toNat]⟩ = [x.toNat, y.toNat] := by
  unfold bl
  simp
  omega

set_option maxHeartbeats 2000000 in
theorem fcsNear_any (ahead behind : ByteArray) (one two b f : Int) (w : World) (hh : Half w) (hs1 : ahead.size ≤ maxLen) (hs2 : behind.size ≤ maxLen) (h1 : 0 ≤ one) (h2 : one ≤ 255) (h3 : 0 ≤ two) (h4 : two ≤ 255) (h5 : 0 ≤ b) (h6 : b ≤ 255) (h7 : 0 ≤ f) (h8 : f ≤ 255) :
    Calls Tryd.prog 7 #[.string ahead, .string behind, .int .u8 one, .int .u8 two, .int .u8 b, .int .u8 f] w fun e w' => e = .returned (.bool true) ∧ Below w.heap.size w w' := by
  have hs1' : ahead.size ≤ 9223372036854775807 := by unfold maxLen at hs1; exact hs1
  have hs2' : behind.size ≤ 9223372036854775807 := by unfold maxLen at hs2; exact hs2
  clear hs1 hs2
  by_cases hn : 1000 < ahead.size
  · go_enter Tryd.func7, Tryd.ntmps7
    go_wp2_with (go_at_call 12; refine (works_any _ hh).mono ?_; rintro e w' ⟨rfl, hb⟩)
    go_ret
    exact ⟨rfl, hb⟩
  · by_cases hn2 : 1000 < behind.size
    · go_enter Tryd.func7, Tryd.ntmps7
      go_wp2_with (go_at_call 12; refine (works_any _ hh).mono ?_; rintro e w' ⟨rfl, hb⟩)
      go_ret
      exact ⟨rfl, hb⟩
    · obtain ⟨x, rfl⟩ := Int.eq_ofNat_of_zero_le h1
      obtain ⟨y, rfl⟩ := Int.eq_ofNat_of_zero_le h3
      obtain ⟨c, rfl⟩ := Int.eq_ofNat_of_zero_le h5
      obtain ⟨k, hk, hk2⟩ : ∃ k : Nat, (f % 8).toNat = k ∧ k < 8 := ⟨_, rfl, by omega⟩
      have hpk : c * 2 ^ k < 65536 := by
        have := (show ∀ k, k < 8 → 2 ^ k ≤ 128 by decide) k hk2
        have := Nat.mul_le_mul (show c ≤ 255 by omega) this
        omega
      obtain ⟨T, hT⟩ : ∃ T, c * 2 ^ k = T := ⟨_, rfl⟩
      have hTw : IntKind.u16.wrap ((c : Int) * 2 ^ (f % 8).toNat) = (T : Int) := by
        have e : ((c : Int) * 2 ^ k) = ((c * 2 ^ k : Nat) : Int) := by push_cast; rfl
        rw [hk, e, hT, IntKind.wrap_u16]; omega
      obtain ⟨u, hu⟩ : ∃ u, x ^^^ (T % 256) = u := ⟨_, rfl⟩
      obtain ⟨v, hv⟩ : ∃ v, y ^^^ (T / 256) = v := ⟨_, rfl⟩
      have hx256 : x < 256 := by omega
      have hy256 : y < 256 := by omega
      have hu2 : u < 256 := by rw [← hu]; exact xor_lt hx256 (by omega)
      have hv2 : v < 256 := by rw [← hv]; exact xor_lt hy256 (by omega)
      have hub : bits .xor .u8 (x : Int) ((T : Int) % 256) = (u : Int) := by
        rw [show (T : Int) % 256 = ((T % 256 : Nat) : Int) by omega, u8_xor_nat x (T % 256) hx256 (by omega), hu]
      have hvb : bits .xor .u8 (y : Int) ((T : Int) / 256 % 256) = (v : Int) := by
        rw [show (T : Int) / 256 % 256 = ((T / 256 : Nat) : Int) by omega, u8_xor_nat y (T / 256) hy256 (by omega), hv]
      have hsum := near_sum (bl ahead) (bl behind) x y c k (bl_bytes _) (bl_bytes _) hx256 hy256 (by omega) hk2
      rw [hT, hu, hv] at hsum
      have hB1 := bytes_two _ _ _ _ (bl_bytes ahead) (bl_bytes behind) hx256 hy256
      have hB2 := bytes_two _ _ _ _ (bl_bytes ahead) (bl_bytes behind) hu2 hv2
      obtain ⟨s, hs⟩ : ∃ s : ByteArray, ahead ++ ⟨#[UInt8.ofNat x, UInt8.ofNat y]⟩ ++ behind = s := ⟨_, rfl⟩
      obtain ⟨t, ht⟩ : ∃ t : ByteArray, ahead ++ ⟨#[UInt8.ofNat u, UInt8.ofNat v]⟩ ++ behind = t := ⟨_, rfl⟩
      have hbs : bl s = bl ahead ++ x :: y :: bl behind := by
        have := bl_two (x : Int) (y : Int) (by omega) (by omega) (by omega) (by omega)
        simp only [Int.toNat_natCast] at this
        rw [← hs, bl_append, bl_append, this]; simp
      have hbt : bl t = bl ahead ++ u :: v :: bl behind := by
        have := bl_two (u : Int) (v : Int) (by omega) (by omega) (by omega) (by omega)
        simp only [Int.toNat_natCast] at this
        rw [← ht, bl_append, bl_append, this]; simp
      have hss : s.size ≤ 2002 := by rw [← bl_length, hbs]; simp [bl_length]; omega
      have hts : t.size ≤ 2002 := by rw [← bl_length, hbt]; simp [bl_length]; omega
      rw [← hbs] at hB1 hsum
      rw [← hbt] at hB2 hsum
      have hc := fsum_lt (bl s)
      have hgs := good_iff hB1 hc
      have hgt := good_iff hB2 hc
      have hos := bl_one s ((fsum (bl s) : Nat) : Int) (by omega) (by omega)
      have hot := bl_one t ((fsum (bl s) : Nat) : Int) (by omega) (by omega)
      rw [Int.toNat_natCast] at hos hot
      rw [← hos] at hgs
      rw [← hot] at hgt
      have q1 : ((((fsum (bl s) : Nat) : Int) == ((fsum (bl t) : Nat) : Int)) == ((c : Int) == 0)) = true := by
        rw [beq_iff_eq, Bool.eq_iff_iff, beq_iff_eq, beq_iff_eq]; omega
      have q2 : (fsum (bl s) == fsum (bl s)) = true := by simp
      have q3 : ((fsum (bl s) == fsum (bl t)) == ((c : Int) == 0)) = true := by
        rw [beq_iff_eq, Bool.eq_iff_iff, beq_iff_eq, beq_iff_eq]; omega
      rw [q2] at hgs
      have hu3 : (u : Int) ≤ 255 := by omega
      have hv3 : (v : Int) ≤ 255 := by omega
      have hc3 : ((fsum (bl s) : Nat) : Int) ≤ 255 := by omega
      have HGS := hide hgs
      have HGT := hide hgt
      have Hs := hide hs
      have Ht := hide ht
      clear hgs hgt hs ht hos hot hbs hbt hsum hu hv hT hpk hk hB1 hB2 q2
      go_enter Tryd.func7, Tryd.ntmps7
      go_wp2_with fail
      rw [Hs.out, Ht.out]
      refine (fsum_any _ _ (hh.below (((Below.refl _ _).alloc (Nat.le_refl _) _).alloc (by simp) _)) (by unfold maxLen; omega)).mono ?_
      rintro e w' ⟨rfl, rfl⟩
      have hbel : ∀ o1 o2 o3, Below w.heap.size w (((w.alloc o1).alloc o2).alloc o3) := fun o1 o2 o3 => (((Below.refl _ _).alloc (Nat.le_refl _) _).alloc (by simp) _).alloc (by simp; omega) _
      have HB := hide hbel
      clear hbel
      go_wp2_with fail
      refine (fsum_any _ _ (hh.below (HB.out _ _ _)) (by unfold maxLen; omega)).mono ?_
      rintro e w' ⟨rfl, rfl⟩
      go_wp2_with fail
      refine (fsum_any _ _ (hh.below (HB.out _ _ _)) (by unfold maxLen; omega)).mono ?_
      rintro e w' ⟨rfl, rfl⟩
      go_wp2_with fail
      refine (fgood_any _ _ (hh.below (HB.out _ _ _)) (by rw [ByteArray.size_append]; unfold maxLen; show s.size + 1 ≤ _; omega)).mono ?_
      rw [HGS.out]
      rintro e w' ⟨rfl, rfl⟩
      go_wp2_with fail
      refine (fgood_any _ _ (hh.below (HB.out _ _ _)) (by rw [ByteArray.size_append]; unfold maxLen; show t.size + 1 ≤ _; omega)).mono ?_
      rw [HGT.out]
      rintro e w' ⟨rfl, rfl⟩
      go_wp2_with fail
      refine (works_any _ (hh.below (HB.out _ _ _))).mono ?_
      rintro e w' ⟨rfl, hb⟩
      go_wp2
      go_ret
      exact ⟨rfl, below_step (HB.out _ _ _) (Nat.le_refl _) hb⟩

end Go.Proofs.YtphmikaeenkdoaaDoor
