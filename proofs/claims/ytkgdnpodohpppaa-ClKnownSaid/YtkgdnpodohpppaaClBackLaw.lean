/- The walk of the law ClBack: it answers true. -/
import Derived.Test.YtkgdnpodohpppaaClBack
import Derived.Deep.CutRange
namespace Go.Proofs.Ytkgdnpodohpppaa
open Go.RowKit
set_option linter.unusedVariables false
set_option linter.unusedSimpArgs false

theorem ownsRow_kb {w w' : World} {B : Nat} {v : Value} {n : Nat} {xs : List Value} (h : w.ownsRow B 9 1 v n xs) (hb : Below w.heap.size w w') : w'.ownsRow B 9 1 v n xs := by
  refine ⟨h.1, ?_⟩
  rcases h.2 with h0 | ⟨g, cap, cur, e1, e2, e3, rest⟩
  · exact .inl h0
  · exact .inr ⟨g, cap, cur, e1, e2, (hb.block g (Array.getElem?_eq_some_iff.1 e3).1).trans e3, rest⟩
theorem ownsRow_kg {w w' : World} {B b : Nat} {v : Value} {n : Nat} {xs : List Value} (h : w.ownsRow B 9 1 v n xs) (hg : w.grownBy w' (some b)) (hb : b < B) : w'.ownsRow B 9 1 v n xs :=
  h.kept hg (.inr (own_ge h hb))
theorem row_cell {w : World} {B n c : Nat} {a : Option Addr} {f : Nat → ByteArray} (h : w.ownsRow B 9 1 (.slice a n c) n (strs f n)) {k : Nat} (hk : k < n) :
    ∃ g, a = some ⟨g, 0, none⟩ ∧ w.cell? ⟨g, k, none⟩ = some (.string (f k)) := by
  obtain ⟨g, c', hv, hg, hgl⟩ := h.form (by omega)
  injection hv with hv1 hv2 hv3
  subst hv1 hv3
  refine ⟨g, rfl, ?_⟩
  rw [h.cellAt k (by omega)]
  simp [strs, List.getElem?_range hk]

set_option maxRecDepth 100000 in
set_option maxHeartbeats 4000000 in
theorem clBack_any (a : Option Addr) (n c : Nat) (f : Nat → ByteArray) (al : Option Addr) (nl cl : Nat) (ls : List Int) (w : World) (hh : HoldsS w a n f) (hb : n ≤ maxLen ∧ ∀ j, j < n → (f j).size ≤ maxLen)
    (h8 : Holds8 w al nl ls) (hl : nl ≤ maxLen ∧ ∀ j, j < nl → 0 ≤ ls.getD j 0 ∧ ls.getD j 0 ≤ 255) :
    Calls Try.prog 5 #[.slice a n c, .slice al nl cl] w fun e w' => e = .returned (.bool true) ∧ Below w.heap.size w w' := by
  obtain ⟨hn, hls⟩ := hb
  obtain ⟨hnl, hlr⟩ := hl
  unfold maxLen at hn hnl hls
  by_cases h12 : 12 < n
  · go_enter Try.func5, Try.ntmps5
    go_wp2_with fail
    refine (works_any _).mono ?_
    rintro e w1 ⟨rfl, hb⟩
    go_wp2
    go_ret
    exact ⟨rfl, hb⟩
  by_cases h0 : nl = 0
  · subst h0
    go_enter Try.func5, Try.ntmps5
    go_wp2_with fail
    refine (works_any _).mono ?_
    rintro e w1 ⟨rfl, hb⟩
    go_wp2
    go_ret
    exact ⟨rfl, hb⟩
  have h0' : ((nl : Int) == 0) = false := by rw [beq_eq_false_iff_ne]; omega
  have HL := hide hls
  have HR := hide hlr
  have HH := hide hh
  have H8 := hide h8
  clear hls hlr hh h8
  go_enter Try.func5, Try.ntmps5
  go_wp2_with fail
  refine (jnew_own _).mono ?_
  rintro e w1 ⟨rfl, J1, b1⟩
  have hlt := J1.block
  go_wp2
  go_loopw [6] (fun i wr => ∃ k : Nat, k ≤ n ∧ i = .int .i64 (k : Int) ∧ JoinAt wr w.heap.size false ∧ Below w.heap.size w wr) (fun i _ => n - (intOf i).toNat)
  case atStart => exact ⟨0, by omega, rfl, J1, b1⟩
  case round =>
    obtain ⟨k, hk, rfl, K1, hB⟩ := hrel
    clear J1 b1
    obtain ⟨wo, rfl⟩ : ∃ wo : World, wo = wr := ⟨_, rfl⟩
    have hbo := K1.block
    by_cases hkn : k < n
    · obtain ⟨g, o, rfl, hg, hc⟩ := HH.out (by omega)
      obtain ⟨g8, o8, rfl, hg8, hc8⟩ := H8.out (by omega)
      have e0 := hc k hkn
      have hm : k % nl < nl := Nat.mod_lt _ (by omega)
      have e8 := hc8 _ hm
      have q8 := HR.out _ hm
      have hk9 := HL.out k hkn
      generalize ls.getD (k % nl) 0 = L at *
      generalize f k = s at *
      clear hc hc8 HL HR HH H8
      have e1 := (hB.cell (p := ⟨g, o + k, none⟩) hg).trans e0
      have e2 := (hB.cell (p := ⟨g8, o8 + k % nl, none⟩) hg8).trans e8
      have e3 : (k : Int) < (n : Int) := by omega
      have e4 : (k : Int) % (nl : Int) = ((k % nl : Nat) : Int) := rfl
      obtain ⟨q1, q2⟩ := q8
      by_cases h300 : 300 < s.size
      · go_wp2_with fail
        refine (works_any _).mono ?_
        rintro e w2 ⟨rfl, hb⟩
        go_wp2
        go_ret
        exact ⟨rfl, below_step hB (Nat.le_refl _) hb⟩
      · generalize k % nl = m at *
        obtain ⟨size, hz, z1, z2⟩ := size_ex (2 + L) (by omega)
        have zL : size + 1 ≤ 128 ∧ (size : Int) + 1 ≤ 2 + L := by omega
        have HZ := hide hz
        clear hz
        go_wp2_with fail
        refine (split_ok s (2 + L) size _ (by omega) (by omega) HZ.out (by omega)).mono ?_
        intro e w2 h
        obtain ⟨v, rfl, hrow, hb2⟩ := h
        obtain ⟨a2, c2, rfl, _⟩ := ownsRow_holdsS hrow
        have hp := pcN_pos s.size size z1
        have hN := pcN_le s.size size (by omega)
        have hp0 : ((pcN s.size size : Int) == 0) = false := by rw [beq_eq_false_iff_ne]; omega
        have hsz := hB.size
        have J2 := K1.below hb2
        have B2 := below_step hB (Nat.le_refl _) hb2
        clear e1 e2 K1 hb2 e4
        go_wp2
        clear hp0
        go_loopw [10, 11] (fun x i wr => ∃ j : Nat, j ≤ pcN s.size size ∧ x = .string (accK s size j) ∧ i = .int .i64 (j : Int) ∧ JoinAt wr w.heap.size (inK (pcN s.size size) j) ∧ wr.ownsRow wo.heap.size 9 1 (.slice a2 (pcN s.size size) c2) (pcN s.size size) (strs (pc s size) (pcN s.size size)) ∧ Below w.heap.size w wr) (fun _ i _ => pcN s.size size - (intOf i).toNat)
        case atStart => exact ⟨0, by omega, by rw [accK_zero], rfl, J2, hrow, B2⟩
        case round =>
          obtain ⟨j, hj, rfl, rfl, J3, hrow3, B3⟩ := hrel
          clear J2 hrow B2
          have hs3 := B3.size
          by_cases hjn : j < pcN s.size size
          · obtain ⟨g2, rfl, hc3⟩ := row_cell hrow3 hjn
            obtain ⟨x1, x2⟩ := join_pc s size j z1 hjn
            have hps := pc_bound s size j
            have X1 := hide x1
            have X2 := hide x2
            have hjI : (j : Int) < (pcN s.size size : Int) := by omega
            clear x1 x2
            go_wp2_with fail
            refine (jput_any _ _ _ _ J3 (by omega)).mono ?_
            rintro e w4 ⟨rfl, J4, g4⟩
            rw [X1.out]
            rw [X2.out] at J4
            have B4 := B3.trans (join_below g4 hs3 (Nat.le_refl _))
            have hrow4 := ownsRow_kg hrow3 g4 hbo
            clear X1 X2 J3 g4 hc3 hrow3
            obtain ⟨g2', hv, hc4⟩ := row_cell hrow4 hjn
            obtain rfl : g2 = g2' := by injection hv with hv; injection hv
            clear hv
            have HA := hide (accK_succ s size j z1 hjn)
            have hcat : ¬ 9223372036854775807 < (accK s size j).size + (datK s size j).size := by
              unfold accK datK
              rw [ByteArray.size_extract, ByteArray.size_extract]
              omega
            obtain ⟨D, hD⟩ : ∃ D : Bool, D = decide (j + 1 = pcN s.size size) := ⟨_, rfl⟩
            have hI5 : inK (pcN s.size size) (j + 1) = !D := by
              rw [hD]
              unfold inK
              rw [← decide_not, decide_eq_decide]
              omega
            have hE5 : ((j : Int) == (pcN s.size size : Int) - 1) = D := by
              rw [hD, Bool.eq_iff_iff, beq_iff_eq, decide_eq_true_iff]
              omega
            rw [hI5] at J4
            rw [← hD]
            have HI := hide hI5
            clear hI5 hD
            have t1 : ¬ (2 + L < ((pc s size j).size : Int)) := by omega
            have t2 : ¬ ((128 : Int) < ((pc s size j).size : Int)) := by omega
            cases D
            all_goals
              go_wp2_with fail
              refine (within_any _ _ _ J4).mono ?_
              rintro e w5 ⟨rfl, rfl⟩
              go_wp2
              go_roundw
              case rel => exact ⟨j + 1, hjn, by rw [← HA.out], by go_num, by rw [HI.out]; exact J4, hrow4, B4⟩
              case measure => simp [intOf]; omega
          · obtain rfl : j = pcN s.size size := by omega
            have hin : inK (pcN s.size size) (pcN s.size size) = false := by unfold inK; exact decide_eq_false (by omega)
            rw [hin] at J3
            rw [accK_end s size z1]
            have e5 := (B3.cell (p := ⟨g, o + k, none⟩) hg).trans e0
            clear hin
            go_wp2
            go_roundw
            case rel => exact ⟨k + 1, hkn, by go_num, J3, B3⟩
            case measure => simp [intOf]; omega
    · obtain rfl : k = n := by omega
      go_wp2_with fail
      refine (works_any _).mono ?_
      rintro e w2 ⟨rfl, hb⟩
      go_wp2
      go_ret
      exact ⟨rfl, below_step hB (Nat.le_refl _) hb⟩

end Go.Proofs.Ytkgdnpodohpppaa
