/- The law AdvancedTurned: a turned bit is told. -/
import Derived.Test.YtflooblecbhcoaaDoorAdvTurnPlain
namespace Go.Proofs.YtflooblecbhcoaaDoor
open Go.RowKit
set_option linter.unusedVariables false
set_option linter.unusedSimpArgs false

/-- A text with a byte exchanged. -/
def setByte (s : ByteArray) (j : Nat) (v : Nat) : ByteArray := ⟨(s.data.toList.set j (UInt8.ofNat v)).toArray⟩
theorem setByte_st (s : ByteArray) (j v : Nat) (hv : v < 256) : setByte s j v = st ((bl s).set j v) := by
  apply bl_inj
  rw [bl_st (fun x hx => by rcases List.mem_or_eq_of_mem_set hx with h | h; exact bl_bytes s x h; omega)]
  unfold bl setByte
  rw [List.map_set]
  congr 1
  simp
  omega
theorem setByte_size (s : ByteArray) (j v : Nat) : (setByte s j v).size = s.size := by
  rw [← bl_length, ← bl_length]; simp [bl, setByte]
theorem set_cells {w1 : World} {g j v : Nat} {s : ByteArray} (hv : v < 256) (hj : j < s.size)
    (hc : ∀ k, (hk : k < s.size) → w1.cell? ⟨g, k, none⟩ = some (.int .u8 (s[k].toNat : Nat)) ∧ w1.frozen? ⟨g, k, none⟩ = false)
    (L : List UInt8) (hL : L = s.data.toList.set j (UInt8.ofNat v)) :
    ∀ k, (hk : k < L.length) → (w1.setCell ⟨g, j, none⟩ (.int .u8 (v : Nat))).cell? ((⟨g, 0, none⟩ : Addr).add k) = some (.int .u8 (L[k].toNat : Nat)) := by
  subst hL
  intro k hk
  have hks : k < s.size := by rw [List.length_set, Array.length_toList] at hk; exact hk
  rw [show (⟨g, 0, none⟩ : Addr).add k = ⟨g, k, none⟩ by unfold Addr.add; split <;> simp_all]
  by_cases he : j = k
  · subst he
    rw [World.cell?_setCell_same _ _ _ (hc j hks).1]
    simp
    omega
  · rw [World.cell?_setCell_other _ _ _ _ (by simp [he]), (hc k hks).1]
    rw [List.getElem_set_ne he]
    rfl

theorem bit_of (bit : Int) (h : 0 ≤ bit) : ∃ m : Nat, (2 : Int) ^ (bit % 8).toNat % 256 = (m : Int) ∧ m < 256 ∧ m ≠ 0 := by
  have h8 : (bit % 8).toNat < 8 := by omega
  generalize (bit % 8).toNat = n at *
  refine ⟨2 ^ n % 256, by simp, by omega, ?_⟩
  exact (show ∀ n, n < 8 → 2 ^ n % 256 ≠ 0 by decide) n h8

set_option maxHeartbeats 4000000 in
theorem advTurned_any (d k s r : Nat) (c p : Bool) (i : ByteArray) (b : Bool) (at' bit : Int) (w : World) (hh : Octs w) (hf : Half w) (h0 : d ≤ 255) (h1 : k ≤ 255) (h2 : s ≤ 255) (h3 : r ≤ 255) (hi : i.size ≤ maxLen) (ha0 : 0 ≤ at') (ha1 : at' ≤ 255) (hb0 : 0 ≤ bit) (hb1 : bit ≤ 255) :
    Calls Tryd.prog 7 #[.agg #[.int .u8 (d : Int), .bool c, .int .u8 (k : Int), .bool p, .int .u8 (s : Int), .int .u8 (r : Int), .string i], .bool b, .int .u8 at', .int .u8 bit] w fun e w' => e = .returned (.bool true) ∧ Below w.heap.size w w' := by
  have HI := hide hi
  unfold maxLen at hi
  have HO := hide (fun W (hb : Below w.heap.size w W) => hh.below hb)
  have HF := hide (fun W (hb : Below w.heap.size w W) => hf.below hb)
  clear hh hf
  have B0 := (Below.refl w.heap.size w).alloc (Nat.le_refl _) (.cells #[.int .u8 (d : Int), .bool c, .int .u8 (k : Int), .bool p, .int .u8 (s : Int), .int .u8 (r : Int), .string i] 23)
  have F0 : FrBlk (w.alloc (.cells #[.int .u8 (d : Int), .bool c, .int .u8 (k : Int), .bool p, .int .u8 (s : Int), .int .u8 (r : Int), .string i] 23)) w.heap.size d c k p s r i := World.alloc_heap_new w _
  have hlt : w.heap.size < (w.alloc (.cells #[.int .u8 (d : Int), .bool c, .int .u8 (k : Int), .bool p, .int .u8 (s : Int), .int .u8 (r : Int), .string i] 23)).heap.size := by simp
  by_cases hz : i.size = 0
  · have hz' : (i.size : Int) = 0 := by omega
    go_enter Tryd.func7, Tryd.ntmps7
    go_wp2_with fail
    refine (works_any _ (HO.out _ B0) (HF.out _ B0)).mono ?_
    rintro e w2 ⟨rfl, hb2⟩
    have B2 := below_step B0 (Nat.le_refl _) hb2
    clear hb2 B0 F0
    go_wp2
    go_ret
    exact ⟨rfl, B2⟩
  have hz' : ((i.size : Int) == 0) = false := by rw [beq_eq_false_iff_ne]; omega
  by_cases h128 : 128 < i.size
  · go_enter Tryd.func7, Tryd.ntmps7
    go_wp2_with fail
    refine (works_any _ (HO.out _ B0) (HF.out _ B0)).mono ?_
    rintro e w2 ⟨rfl, hb2⟩
    have B2 := below_step B0 (Nat.le_refl _) hb2
    clear hb2 B0 F0
    go_wp2
    go_ret
    exact ⟨rfl, B2⟩
  by_cases hk5 : k = 5
  · subst hk5
    go_enter Tryd.func7, Tryd.ntmps7
    go_wp2_with fail
    refine (works_any _ (HO.out _ B0) (HF.out _ B0)).mono ?_
    rintro e w2 ⟨rfl, hb2⟩
    have B2 := below_step B0 (Nat.le_refl _) hb2
    clear hb2 B0 F0
    go_wp2
    go_ret
    exact ⟨rfl, B2⟩
  have hk5' : ((k : Int) == 5) = false := by rw [beq_eq_false_iff_ne]; omega
  obtain ⟨kk, hkk⟩ : ∃ kk : Nat, at' % (i.size : Int) = (kk : Int) := ⟨(at' % (i.size : Int)).toNat, by rw [Int.toNat_of_nonneg]; exact Int.emod_nonneg _ (by omega)⟩
  have hkl : kk < i.size := by have := Int.emod_lt_of_pos at' (show (0 : Int) < (i.size : Int) by omega); omega
  have hkl2 : (kk : Int) < (i.size : Int) := by omega
  obtain ⟨m, hm, hm1, hm2⟩ := bit_of bit hb0
  have hold := oc_at i kk hkl
  have hol := oc_lt i kk
  obtain ⟨old, hod⟩ : ∃ old, oc i kk = old := ⟨_, rfl⟩
  rw [hod] at hold hol
  have hxor : bits .xor .u8 (old : Int) (m : Int) = ((old ^^^ m : Nat) : Int) := u8_xor_nat old m (by omega) hm1
  have hnl : old ^^^ m < 256 := xor_lt (by omega) hm1
  have hne : old ≠ old ^^^ m := fun h => hm2 (by
    have h2 := congrArg (old ^^^ ·) h
    simp only [xor_self_cancel, Nat.xor_self] at h2
    exact h2.symm)
  generalize old ^^^ m = now at *
  by_cases o1 : old = 126
  · have t1 : ((old : Int) == 126) = true := by rw [beq_iff_eq]; omega
    go_enter Tryd.func7, Tryd.ntmps7
    go_wp2_with fail
    refine (works_any _ (HO.out _ B0) (HF.out _ B0)).mono ?_
    rintro e w9 ⟨rfl, hb9⟩
    have B9 := below_step B0 (Nat.le_refl _) hb9
    clear hb9
    go_wp2
    go_ret
    exact ⟨rfl, B9⟩
  have t1 : ((old : Int) == 126) = false := by rw [beq_eq_false_iff_ne]; omega
  by_cases o2 : old = 125
  · have t2 : ((old : Int) == 125) = true := by rw [beq_iff_eq]; omega
    go_enter Tryd.func7, Tryd.ntmps7
    go_wp2_with fail
    refine (works_any _ (HO.out _ B0) (HF.out _ B0)).mono ?_
    rintro e w9 ⟨rfl, hb9⟩
    have B9 := below_step B0 (Nat.le_refl _) hb9
    clear hb9
    go_wp2
    go_ret
    exact ⟨rfl, B9⟩
  have t2 : ((old : Int) == 125) = false := by rw [beq_eq_false_iff_ne]; omega
  by_cases o3 : now = 126
  · have t3 : ((now : Int) == 126) = true := by rw [beq_iff_eq]; omega
    go_enter Tryd.func7, Tryd.ntmps7
    go_wp2_with fail
    refine (works_any _ (HO.out _ B0) (HF.out _ B0)).mono ?_
    rintro e w9 ⟨rfl, hb9⟩
    have B9 := below_step B0 (Nat.le_refl _) hb9
    clear hb9
    go_wp2
    go_ret
    exact ⟨rfl, B9⟩
  have t3 : ((now : Int) == 126) = false := by rw [beq_eq_false_iff_ne]; omega
  by_cases o4 : now = 125
  · have t4 : ((now : Int) == 125) = true := by rw [beq_iff_eq]; omega
    go_enter Tryd.func7, Tryd.ntmps7
    go_wp2_with fail
    refine (works_any _ (HO.out _ B0) (HF.out _ B0)).mono ?_
    rintro e w9 ⟨rfl, hb9⟩
    have B9 := below_step B0 (Nat.le_refl _) hb9
    clear hb9
    go_wp2
    go_ret
    exact ⟨rfl, B9⟩
  have t4 : ((now : Int) == 125) = false := by rw [beq_eq_false_iff_ne]; omega
  rcases turn_form d k s r c p i b kk now (by omega) hk5 hkl (by rw [hod]; omega) (by omega) hnl (by rw [hod]; exact hne) with hE | ⟨x, F, hE, hx5, hx6, hF0, hFn, hF1, hFz, hFo, hD⟩
  · have HE := hide hE
    clear hE hod hne
    go_enter Tryd.func7, Tryd.ntmps7
    go_wp2_with fail
    refine (encode_any d k s r c p i b 128 _ (HO.out _ B0) (HF.out _ B0) h0 h1 h2 h3 HI.out).mono ?_
    rintro e' w2 ⟨rfl, hb2⟩
    rw [HE.out]
    have B2 := below_step B0 (Nat.le_refl _) hb2
    clear hb2 B0 F0
    go_wp2_with fail
    refine (works_any _ (HO.out _ B2) (HF.out _ B2)).mono ?_
    rintro e w9 ⟨rfl, hb9⟩
    have B9 := below_step B2 (Nat.le_refl _) hb9
    clear hb9
    go_wp2
    go_ret
    exact ⟨rfl, B9⟩
  rw [hod] at hFo
  have HE := hide hE
  have HD := hide hD
  have HFN := hide hFn
  have HN := hide hne
  clear hE hod hne hD hFn
  go_enter Tryd.func7, Tryd.ntmps7
  go_wp2_with fail
  refine (encode_any d k s r c p i b 128 _ (HO.out _ B0) (HF.out _ B0) h0 h1 h2 h3 HI.out).mono ?_
  rintro e' w2 ⟨rfl, hb2⟩
  rw [HE.out]
  have B2 := below_step B0 (Nat.le_refl _) hb2
  clear hb2 B0 F0
  go_wp2
  go_loop [14, 15] (fun pl n => ∃ j : Nat, j ≤ 2 + kk ∧ pl = .int .i64 (F j : Int) ∧ n = .int .i64 (j : Int)) (fun _ n => (2 + kk) - (intOf n).toNat)
  case atStart => exact ⟨0, by omega, by rw [hF0]; rfl, rfl⟩
  case round =>
    obtain ⟨j, hj, rfl, rfl⟩ := hrel
    obtain ⟨P, hP⟩ : ∃ P, F j = P := ⟨_, rfl⟩
    rw [hP]
    by_cases hjk : j < 2 + kk
    · obtain ⟨q1, q2⟩ := HFN.out j hjk
      rw [hP] at q1 q2
      have hjk' : (j : Int) < 2 + (kk : Int) := by omega
      have q1' : (P : Int) < (x.size : Int) := by omega
      have qx := oc_at x P q1
      have ql := oc_lt x P
      generalize oc x P = v at *
      rcases q2 with ⟨q2, q3⟩ | ⟨q2, q3⟩
      · subst q2
        have Q3 := hide q3
        clear q3
        go_wp2
        go_round
        case rel => exact ⟨j + 1, by omega, by rw [Q3.out]; go_num, by go_num⟩
        case measure => simp [intOf]; omega
      · have tv : ((v : Int) == 125) = false := by rw [beq_eq_false_iff_ne]; omega
        have Q3 := hide q3
        clear q3 q2
        go_wp2
        go_round
        case rel => exact ⟨j + 1, by omega, by rw [Q3.out]; go_num, by go_num⟩
        case measure => simp [intOf]; omega
    · have hje : j = 2 + kk := by omega
      have hjk' : ¬ (j : Int) < 2 + (kk : Int) := by omega
      rw [← hje, hP] at hF1 hFz hFo
      have HD2 : Hid (decR (st ((bl (x.extract 1 (x.size - 1))).set (P - 1) now)) b 128 = bad 41) := hide (by rw [← hP, hje]; exact HD.out)
      clear HD hje hj HFN hF0 hP
      obtain ⟨M, hM⟩ : ∃ M, x.size - 1 = M := ⟨_, rfl⟩
      obtain ⟨P0, hP0⟩ : ∃ P0, P - 1 = P0 := ⟨_, rfl⟩
      rw [hM, hP0] at HD2
      have q1 : P < x.size := by omega
      have q1' : (P : Int) < (x.size : Int) := by omega
      have qx := oc_at x P q1
      rw [hFo] at qx
      have hM1 : M < x.size := by omega
      have hM2 : (M : Int) < (x.size : Int) := by omega
      have hM3 : M ≤ x.size := by omega
      have hM4 : 1 ≤ M := by omega
      have hw : IntKind.i64.wrap ((x.size : Int) - 1) = (M : Int) := by rw [IntWalk.i64_in _ (by omega)]; omega
      have hw2 : IntKind.i64.wrap ((P : Int) - 1) = (P0 : Int) := by rw [IntWalk.i64_in _ (by omega)]; omega
      have hYs : (x.extract 1 M).size = M - 1 := by rw [ByteArray.size_extract]; omega
      obtain ⟨Y, hY⟩ : ∃ Y, x.extract 1 M = Y := ⟨_, rfl⟩
      rw [hY] at HD2 hYs
      have hYl : P0 < Y.size := by omega
      have hYl2 : (P0 : Int) < (Y.size : Int) := by omega
      have hYz : Y.size ≤ 600 := by omega
      rw [← setByte_st Y P0 now hnl] at HD2
      have hZs : (setByte Y P0 now).size ≤ 100000 := by rw [setByte_size]; omega
      obtain ⟨L, hL⟩ : ∃ L, L = Y.data.toList.set P0 (UInt8.ofNat now) := ⟨_, rfl⟩
      have hfin : setByte Y P0 now = ⟨L.toArray⟩ := by rw [hL]; rfl
      have hlen : L.length = Y.size := by rw [hL, List.length_set, Array.length_toList]; rfl
      rw [hfin] at HD2 hZs
      have HL := hide hlen
      have HL2 := hide hL
      have HZ := hide hZs
      clear hlen hL hfin hZs hM hP0 hFo hYs
      go_wp2_with (with_reducible refine wpList_to_bytes (o := ⟨some 114, _, _, _, _, _⟩) _ rfl _ 9 37 5 rfl Tryd.underlying9 Tryd.underlying37 Tryd.underlying5 Y rfl ?_)
      intro cap w3 hcap hsz hbel hcells
      have HC := hide hcells
      obtain ⟨hc1, hf1⟩ := hcells P0 hYl
      have HS := hide hsz
      have B3 := below_step B2 (Nat.le_refl _) hbel
      have hle := B2.size
      clear hcells hsz hbel B2
      go_wp2_with (with_reducible refine wpList_of_bytes (o := ⟨some 122, _, _, _, _, _⟩) _ rfl _ 37 9 5 rfl Tryd.underlying37 Tryd.underlying5 Tryd.underlying9 _ _ _ L HL.out rfl ?hc ?_)
      case hc => exact fun _ => ⟨_, rfl, set_cells (w1 := w3) hnl hYl HC.out L HL2.out⟩
      have B4 := B3.setCell (p := ⟨w2.heap.size, P0, none⟩) hle (.int .u8 (now : Int))
      generalize w3.setCell ⟨w2.heap.size, P0, none⟩ (.int .u8 (now : Int)) = w4 at *
      clear B3 hc1 hf1 HC
      go_wp2_with fail
      refine (decode_any _ b 128 _ (HO.out _ B4) (HF.out _ B4) HZ.out).mono ?_
      rintro e' w5 ⟨rfl, hb5⟩
      rw [HD2.out]
      unfold bad
      have B5 := below_step B4 (Nat.le_refl _) hb5
      have B6 := B5.alloc B5.size (.cells #[.int .u8 0, .bool false, .int .u8 0, .bool false, .int .u8 0, .int .u8 0, .string ⟨#[]⟩] 23)
      clear hb5 B4 B5
      go_wp2_with fail
      refine (works_any _ (HO.out _ B6) (HF.out _ B6)).mono ?_
      rintro e w9 ⟨rfl, hb9⟩
      have B9 := below_step B6 (Nat.le_refl _) hb9
      clear hb9
      go_wp2
      go_ret
      exact ⟨rfl, B9⟩

end Go.Proofs.YtflooblecbhcoaaDoor
