/- The walk of chapter 3's closed law FieldKnown: it answers true. -/
import Derived.Test.YtjnkfcbigldopaaDoorFieldBack
namespace Go.Proofs.YtjnkfcbigldopaaDoor
open Go.RowKit
set_option linter.unusedVariables false
set_option linter.unusedSimpArgs false

/-- How many of the first c octets tell something. -/
def told : Nat → Nat
  | 0 => 0
  | c + 1 => if gk c = 0 then told c else told c + 1
theorem told_le : ∀ c, told c ≤ c
  | 0 => Nat.le_refl _
  | c + 1 => by have := told_le c; rw [told]; split <;> omega
theorem told_all : told 256 = 188 := by decide +kernel

set_option maxHeartbeats 8000000 in
set_option maxRecDepth 100000 in
theorem fieldKnown_any (w : World) (hh : Octs w) :
    Calls Tryd.prog 7 #[] w fun e w' => e = .returned (.bool true) ∧ Below w.heap.size w w' := by
  go_enter Tryd.func7, Tryd.ntmps7
  go_wp2_with fail
  go_loopw [1, 2] (fun s i wr => ∃ (k : Nat), k ≤ 256 ∧ i = .int .i64 k ∧ s = .int .i64 (told k : Nat) ∧ Below w.heap.size w wr) (fun _ i _ => 256 - (intOf i).toNat)
  case atStart => exact ⟨0, by omega, rfl, rfl, Below.refl _ _⟩
  case round =>
    obtain ⟨k, hk, rfl, rfl, hb⟩ := hrel
    have hO := hh.below hb
    have hto := told_le k
    by_cases hlt : k < 256
    · by_cases h0 : gk k = 0
      · have HG := hide (getR_none h0)
        have HT := hide (show told (k + 1) = told k by rw [told, if_pos h0])
        clear h0
        go_wp2_with fail
        refine (fget_any k _ hO (by omega)).mono ?_
        rw [HG.out]
        rintro e w' ⟨rfl, rfl⟩
        go_wp2_with fail
        refine (fieldGet_any (k : Int) _ hO (by omega) (by omega)).mono ?_
        rintro e w1 ⟨rfl, hb1⟩
        replace hb := below_step hb (Nat.le_refl _) hb1
        clear hb1 hO
        have hO := hh.below hb
        go_wp2_with fail
        refine (fieldBack_any ((k : Int) % 12) _ ((k : Int) % 9) ((k : Int) / 16 % 9) (k : Int) _ hO (by omega) (by omega) (by omega) (by omega) (by omega) (by omega) (by omega) (by omega)).mono ?_
        rintro e w2 ⟨rfl, hb1⟩
        replace hb := below_step hb (Nat.le_refl _) hb1
        clear hb1 hO
        have hO := hh.below hb
        go_wp2_with fail
        refine (fieldKinds_any (k : Int) _ _ hO (by omega) (by omega)).mono ?_
        rintro e w3 ⟨rfl, hb1⟩
        replace hb := below_step hb (Nat.le_refl _) hb1
        clear hb1 hO
        go_wp2
        go_roundw
        case rel => exact ⟨k + 1, by omega, by go_num, by rw [HT.out], hb⟩
        case measure => simp [intOf]; omega
      · obtain ⟨hQ, hc⟩ := put_of_get (by omega) h0
        have HG := hide (getR_is hQ hc)
        have HT := hide (show told (k + 1) = told k + 1 by rw [told, if_neg h0])
        clear h0 hQ hc
        generalize gk k = K at HG
        generalize gp k = P at HG
        generalize gs k = S at HG
        generalize gr k = R at HG
        go_wp2_with fail
        refine (fget_any k _ hO (by omega)).mono ?_
        rw [HG.out]
        rintro e w' ⟨rfl, rfl⟩
        go_wp2_with fail
        refine (fieldGet_any (k : Int) _ hO (by omega) (by omega)).mono ?_
        rintro e w1 ⟨rfl, hb1⟩
        replace hb := below_step hb (Nat.le_refl _) hb1
        clear hb1 hO
        have hO := hh.below hb
        go_wp2_with fail
        refine (fieldBack_any ((k : Int) % 12) _ ((k : Int) % 9) ((k : Int) / 16 % 9) (k : Int) _ hO (by omega) (by omega) (by omega) (by omega) (by omega) (by omega) (by omega) (by omega)).mono ?_
        rintro e w2 ⟨rfl, hb1⟩
        replace hb := below_step hb (Nat.le_refl _) hb1
        clear hb1 hO
        have hO := hh.below hb
        go_wp2_with fail
        refine (fieldKinds_any (k : Int) _ _ hO (by omega) (by omega)).mono ?_
        rintro e w3 ⟨rfl, hb1⟩
        replace hb := below_step hb (Nat.le_refl _) hb1
        clear hb1 hO
        go_wp2
        go_roundw
        case rel => exact ⟨k + 1, by omega, by go_num, by rw [HT.out]; go_num, hb⟩
        case measure => simp [intOf]; omega
    · have hke : k = 256 := by omega
      have hT : (((told k : Nat) : Int) == 188) = true := by rw [hke, told_all]; rfl
      generalize told k = T at hT hto ⊢
      clear hke hto
      go_wp2_with fail
      go_loopw [8] (fun i wr => ∃ (k : Nat), k ≤ 13 ∧ i = .int .u8 k ∧ Below w.heap.size w wr) (fun i _ => 13 - (intOf i).toNat)
      case atStart => exact ⟨0, by omega, rfl, hb⟩
      case round =>
        clear hb hO hlt hk
        obtain ⟨k, hk, rfl, hb⟩ := hrel
        by_cases hlt : k < 13
        · have da : decide ((k : Int) < 13) = true := by simp; omega
          go_wp2_with fail
          go_loopw [9] (fun i wr => ∃ (n : Nat), n ≤ 9 ∧ i = .int .u8 n ∧ Below w.heap.size w wr) (fun i _ => 9 - (intOf i).toNat)
          case atStart => exact ⟨0, by omega, rfl, hb⟩
          case round =>
            clear hb
            obtain ⟨n, hn, rfl, hb⟩ := hrel
            have hO := hh.below hb
            by_cases hnt : n < 9
            · go_wp2_with fail
              refine (fieldPut_any (k : Int) _ (n : Int) 0 _ hO (by omega) (by omega) (by omega) (by omega) (by omega) (by omega)).mono ?_
              rintro e w1 ⟨rfl, hb1⟩
              replace hb := below_step hb (Nat.le_refl _) hb1
              clear hb1 hO
              have hO := hh.below hb
              go_wp2_with fail
              refine (fieldPut_any (k : Int) true 0 (n : Int) _ hO (by omega) (by omega) (by omega) (by omega) (by omega) (by omega)).mono ?_
              rintro e w2 ⟨rfl, hb1⟩
              replace hb := below_step hb (Nat.le_refl _) hb1
              clear hb1 hO
              have hO := hh.below hb
              go_wp2_with fail
              refine (fieldPut_any (k : Int) false (n : Int) (8 - (n : Int)) _ hO (by omega) (by omega) (by omega) (by omega) (by omega) (by omega)).mono ?_
              rintro e w3 ⟨rfl, hb1⟩
              replace hb := below_step hb (Nat.le_refl _) hb1
              clear hb1 hO
              go_wp2
              go_roundw
              case rel => exact ⟨n + 1, by omega, by go_num, hb⟩
              case measure => simp [intOf]; omega
            · go_wp2
              go_roundw
              case rel => exact ⟨k + 1, by omega, by go_num, hb⟩
              case measure => simp [intOf]; omega
        · have hO := hh.below hb
          go_wp2_with fail
          refine (fworks_any _ hO).mono ?_
          rintro e w' ⟨rfl, rfl⟩
          go_wp2
          go_ret
          exact ⟨rfl, hb⟩

end Go.Proofs.YtjnkfcbigldopaaDoor
