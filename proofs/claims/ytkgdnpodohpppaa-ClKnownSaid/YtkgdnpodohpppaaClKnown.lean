/- The walk of the law ClKnown: it answers true. -/
import Derived.Test.YtkgdnpodohpppaaClBackLaw
import Derived.Test.YtkgdnpodohpppaaClJoinLaw
import Derived.Laws.MakeOwn
namespace Go.Proofs.Ytkgdnpodohpppaa
open Go.RowKit
set_option linter.unusedVariables false
set_option linter.unusedSimpArgs false

def zeros (n : Nat) : Obj := .cells (madeCells (Value.int .u8 0).cells n) 5
def zstr (n : Nat) : ByteArray := strOfNums (List.replicate n 0)
theorem zstr_size (n : Nat) : (zstr n).size = n := by unfold zstr; rw [strOfNums_size]; simp
theorem run_make_u8 (n : Nat) (hn : n ≤ 1000) (W : World) :
    (Instr.makeSlice 37 (.int .i64 (n : Int)) (.int .i64 (n : Int))).run Try.prog W = .ok (.slice (some ⟨W.heap.size, 0, none⟩) n n) (W.alloc (zeros n)) := by
  obtain ⟨i0, hi, hz0, hz1, hz2⟩ := info_parts u8row
  have := run_make (P := Try.prog) W 37 5 i0 (.int .u8 0) Try.underlying37 hi hz0 .i64 .i64 n n (by omega) (by omega) (by rw [hz2]; omega) (by omega)
  rw [this, hz1]
  simp [zeros]
theorem run_str (b n cap : Nat) (xs : List Int) (W : World) (hx : xs.length = n) (hc : ∀ i, i < n → W.cell? ⟨b, 0 + i, none⟩ = some (.int .u8 (xs.getD i 0))) :
    (convert 37 9 (.slice (some ⟨b, 0, none⟩) n cap)).run Try.prog W = .ok (.string (strOfNums xs)) W :=
  run_convert_bytes_arg (P := Try.prog) W 37 5 Try.underlying37 Try.underlying5 b 0 n cap xs hx hc 9 Try.underlying9
theorem run_zstr (n : Nat) (W : World) : (convert 37 9 (.slice (some ⟨W.heap.size, 0, none⟩) n n)).run Try.prog (W.alloc (zeros n)) = .ok (.string (zstr n)) (W.alloc (zeros n)) := by
  refine run_str W.heap.size n n _ _ (by simp) fun i hi => ?_
  unfold zeros
  rw [Nat.zero_add, World.cell?_alloc_new, ← Array.getElem?_toList, show (Value.int .u8 0).cells = #[Value.int .u8 0] from rfl, toList_madeCells_one]
  simp [hi, List.getD]

def lims : List Int := [-9223372036854775808, 1, 2, 3, 8, 20, 127, 128, 129, 9223372036854775807]
theorem lims_le : ∀ j, j < 10 → lims.getD j 0 ≤ 9223372036854775807 := by decide
theorem lims_cell (W : World) (j : Nat) (hj : j < 10) : (W.alloc (.cells #[.int .i64 (-9223372036854775808), .int .i64 1, .int .i64 2, .int .i64 3, .int .i64 8, .int .i64 20, .int .i64 127, .int .i64 128, .int .i64 129, .int .i64 9223372036854775807] 3)).cell? ⟨W.heap.size, j, none⟩ = some (.int .i64 (lims.getD j 0)) := by
  rw [World.cell?_alloc_new]
  rcases (show j = 0 ∨ j = 1 ∨ j = 2 ∨ j = 3 ∨ j = 4 ∨ j = 5 ∨ j = 6 ∨ j = 7 ∨ j = 8 ∨ j = 9 by omega) with rfl | rfl | rfl | rfl | rfl | rfl | rfl | rfl | rfl | rfl <;> rfl

set_option maxRecDepth 100000 in
set_option maxHeartbeats 4000000 in
theorem clKnown_any (w : World) :
    Calls Try.prog 7 #[] w fun e w' => e = .returned (.bool true) ∧ Below w.heap.size w w' := by
  go_enter Try.func7, Try.ntmps7
  go_wp2
  go_loopw [1] (fun i wr => ∃ k : Nat, k ≤ 40 ∧ i = .int .i64 (k : Int) ∧ Below w.heap.size w wr) (fun i _ => 40 - (intOf i).toNat)
  case atStart => exact ⟨0, by omega, rfl, Below.refl _ _⟩
  case round =>
    obtain ⟨k, hk, rfl, hB⟩ := hrel
    by_cases hlt : k < 40
    · obtain ⟨wo, rfl⟩ : ∃ wo : World, wo = wr := ⟨_, rfl⟩
      have e3 : (k : Int) < 40 := by omega
      have hmk := run_make_u8 k (by omega) wo
      have hcv := run_zstr k wo
      have hB1 := hB.alloc hB.size (zeros k)
      have HZ := hide (zstr_size k)
      generalize zstr k = s at *
      generalize zeros k = o at *
      generalize wo.alloc o = w1 at *
      go_wp2
      have HV := hide (lims_cell w1)
      have HVB := hide (fun (W : World) (hb : Below (w1.alloc (.cells #[.int .i64 (-9223372036854775808), .int .i64 1, .int .i64 2, .int .i64 3, .int .i64 8, .int .i64 20, .int .i64 127, .int .i64 128, .int .i64 129, .int .i64 9223372036854775807] 3)).heap.size (w1.alloc (.cells #[.int .i64 (-9223372036854775808), .int .i64 1, .int .i64 2, .int .i64 3, .int .i64 8, .int .i64 20, .int .i64 127, .int .i64 128, .int .i64 129, .int .i64 9223372036854775807] 3)) W) (j : Nat) => hb.cell (p := ⟨w1.heap.size, j, none⟩) (by simp))
      have hB2 := hB1.alloc hB1.size (.cells #[.int .i64 (-9223372036854775808), .int .i64 1, .int .i64 2, .int .i64 3, .int .i64 8, .int .i64 20, .int .i64 127, .int .i64 128, .int .i64 129, .int .i64 9223372036854775807] 3)
      clear hmk hcv
      generalize (w1.alloc (.cells #[.int .i64 (-9223372036854775808), .int .i64 1, .int .i64 2, .int .i64 3, .int .i64 8, .int .i64 20, .int .i64 127, .int .i64 128, .int .i64 129, .int .i64 9223372036854775807] 3)) = w2 at *
      go_loopw [19] (fun i wr => ∃ j : Nat, j ≤ 10 ∧ i = .int .i64 (j : Int) ∧ Below w2.heap.size w2 wr) (fun i _ => 10 - (intOf i).toNat)
      case atStart => exact ⟨0, by omega, rfl, Below.refl _ _⟩
      case round =>
        obtain ⟨j, hj, rfl, hBr⟩ := hrel
        by_cases hjl : j < 10
        · have c0 := (HVB.out wr hBr j).trans (HV.out j hjl)
          have v0 := lims_le j hjl
          have e4 : (j : Int) < 10 := by omega
          generalize lims.getD j 0 = v at *
          go_wp2_with fail
          refine (clSplit_any s v _ v0 (by rw [HZ.out]; unfold maxLen; omega)).mono ?_
          rintro e w3 ⟨rfl, hb3⟩
          go_wp2
          go_roundw
          case rel => exact ⟨j + 1, hjl, by go_num, below_step hBr (Nat.le_refl _) hb3⟩
          case measure => simp [intOf]; omega
        · obtain rfl : j = 10 := by omega
          have hB3 := below_step hB2 (Nat.le_refl _) hBr
          clear hBr HV HVB hB2 hB1
          have m9 : (k : Int) % 9 = ((k % 9 : Nat) : Int) := rfl
          have l9 : k % 9 < 9 := Nat.mod_lt _ (by omega)
          have m7 : (k : Int) % 7 = ((k % 7 : Nat) : Int) := rfl
          have l7 : k % 7 < 7 := Nat.mod_lt _ (by omega)
          generalize k % 9 = n9 at *
          generalize k % 7 = n7 at *
          have zs := HZ.out
          have hcat : ¬ 9223372036854775807 < s.size + 1 := by omega
          clear zs
          go_wp2_with fail
          obtain ⟨f, hf⟩ : ∃ f : Nat → ByteArray, f = fun j => [s, ⟨#[]⟩, s ++ ⟨#[97]⟩].getD j ⟨#[]⟩ := ⟨_, rfl⟩
          have hh := holdsS_new wr #[.string s, .string ⟨#[]⟩, .string (s ++ ⟨#[97]⟩)] 9 3 f (by rw [hf]; rfl)
          have h8 := holds8_new (wr.alloc (.cells #[.string s, .string ⟨#[]⟩, .string (s ++ ⟨#[97]⟩)] 9)) #[.int .u8 (n9 : Int), .int .u8 200] 5 2 [(n9 : Int), 200] rfl rfl
          rw [World.size_alloc] at h8
          refine (clBack_any _ 3 3 f _ 2 2 [(n9 : Int), 200] _ (hh.alloc _) ⟨by decide, fun j hj => ?_⟩ h8 ⟨by decide, fun j hj => ?_⟩).mono ?_
          · rcases (show j = 0 ∨ j = 1 ∨ j = 2 by omega) with rfl | rfl | rfl
            · rw [hf]; show s.size ≤ _; rw [HZ.out]; unfold maxLen; omega
            · rw [hf]; show (0 : Nat) ≤ _; omega
            · rw [hf]; show (s ++ ⟨#[97]⟩).size ≤ _; rw [ByteArray.size_append, HZ.out]; show k + 1 ≤ _; unfold maxLen; omega
          · rcases (show j = 0 ∨ j = 1 by omega) with rfl | rfl
            · show 0 ≤ (n9 : Int) ∧ (n9 : Int) ≤ 255; omega
            · show 0 ≤ (200 : Int) ∧ (200 : Int) ≤ 255; omega
          rintro e w4 ⟨rfl, hb4⟩
          have hB4 : Below w.heap.size w w4 := by
            have := ((hB3.alloc hB3.size (.cells #[.string s, .string ⟨#[]⟩, .string (s ++ ⟨#[97]⟩)] 9)).alloc (by have := hB3.size; simp; omega) (.cells #[.int .u8 (n9 : Int), .int .u8 200] 5))
            exact below_step this (Nat.le_refl _) hb4
          clear hB3 hb4 hh h8 hf m9
          go_wp2_with fail
          refine (clFew_any s _ _ (by rw [HZ.out]; unfold maxLen; omega) (by omega) (by omega)).mono ?_
          rintro e w5 ⟨rfl, hb5⟩
          go_wp2
          go_roundw
          case rel => exact ⟨k + 1, hlt, by go_num, below_step hB4 (Nat.le_refl _) hb5⟩
          case measure => simp [intOf]; omega
    · have hk40 : ¬ (k : Int) < 40 := by omega
      clear hlt
      go_wp2
      obtain ⟨wo, rfl⟩ : ∃ wo : World, wo = wr := ⟨_, rfl⟩
      go_loopw [5] (fun i wr => ∃ j : Nat, j ≤ 256 ∧ i = .int .i64 (j : Int) ∧ Below w.heap.size w wr) (fun i _ => 256 - (intOf i).toNat)
      case atStart => exact ⟨0, by omega, rfl, hB⟩
      case round =>
        obtain ⟨j, hj, rfl, hBr⟩ := hrel
        clear hB
        by_cases hjl : j < 256
        · have e4 : (j : Int) < 256 := by omega
          have hs1 := run_str wr.heap.size 2 2 [(j : Int), 97] (wr.alloc (.cells #[.int .u8 (j : Int), .int .u8 97] 5)) rfl (fun i hi => by
            rw [Nat.zero_add, World.cell?_alloc_new]
            rcases (show i = 0 ∨ i = 1 by omega) with rfl | rfl <;> rfl)
          have hs2 := run_str (wr.heap.size + 1) 1 1 [(j : Int)] ((wr.alloc (.cells #[.int .u8 (j : Int), .int .u8 97] 5)).alloc (.cells #[.int .u8 (j : Int)] 5)) rfl (fun i hi => by
            have := World.cell?_alloc_new (wr.alloc (.cells #[.int .u8 (j : Int), .int .u8 97] 5)) #[.int .u8 (j : Int)] 5 0
            obtain rfl : i = 0 := by omega
            rw [World.size_alloc] at this
            exact this)
          have z1 : (strOfNums [(j : Int), 97]).size = 2 := strOfNums_size _
          have z2 : (strOfNums [(j : Int)]).size = 1 := strOfNums_size _
          generalize strOfNums [(j : Int), 97] = s1 at *
          generalize strOfNums [(j : Int)] = s2 at *
          have Z1 := hide z1
          have Z2 := hide z2
          clear z1 z2
          go_wp2_with fail
          obtain ⟨f, hf⟩ : ∃ f : Nat → ByteArray, f = fun i => [s1, ⟨#[1, 98]⟩, s2, ⟨#[129]⟩, ⟨#[65]⟩, ⟨#[]⟩].getD i ⟨#[]⟩ := ⟨_, rfl⟩
          have hh := holdsS_new ((wr.alloc (.cells #[.int .u8 (j : Int), .int .u8 97] 5)).alloc (.cells #[.int .u8 (j : Int)] 5)) #[.string s1, .string ⟨#[1, 98]⟩, .string s2, .string ⟨#[129]⟩, .string ⟨#[65]⟩, .string ⟨#[]⟩] 9 6 f (by rw [hf]; rfl)
          rw [World.size_alloc, World.size_alloc] at hh
          refine (clJoin_any _ 6 6 f _ hh ⟨by unfold maxLen; omega, fun i hi => ?_⟩).mono ?_
          · rcases (show i = 0 ∨ i = 1 ∨ i = 2 ∨ i = 3 ∨ i = 4 ∨ i = 5 by omega) with rfl | rfl | rfl | rfl | rfl | rfl
            · rw [hf]; show s1.size ≤ _; rw [Z1.out]; unfold maxLen; omega
            · rw [hf]; show (2 : Nat) ≤ _; unfold maxLen; omega
            · rw [hf]; show s2.size ≤ _; rw [Z2.out]; unfold maxLen; omega
            · rw [hf]; show (1 : Nat) ≤ _; unfold maxLen; omega
            · rw [hf]; show (1 : Nat) ≤ _; unfold maxLen; omega
            · rw [hf]; show (0 : Nat) ≤ _; omega
          rintro e w3 ⟨rfl, hb3⟩
          have hsz := hBr.size
          have hB3 : Below w.heap.size w w3 := below_step (((hBr.alloc hsz _).alloc (by simp; omega) _).alloc (by simp; omega) _) (Nat.le_refl _) hb3
          clear hs1 hs2 hh hf hb3
          go_wp2
          go_roundw
          case rel => exact ⟨j + 1, hjl, by go_num, hB3⟩
          case measure => simp [intOf]; omega
        · obtain rfl : j = 256 := by omega
          go_wp2_with fail
          refine (jput_nil _ _).mono ?_
          rintro e w2 ⟨rfl, rfl⟩
          go_wp2_with fail
          refine (within_nil _).mono ?_
          rintro e w2 ⟨rfl, rfl⟩
          have hmk : (Instr.makeSlice 37 (.int .i64 255) (.int .i64 255)).run Try.prog wr = .ok (.slice (some ⟨wr.heap.size, 0, none⟩) 255 255) (wr.alloc (zeros 255)) := run_make_u8 255 (by omega) wr
          have hcv := run_zstr 255 wr
          go_wp2_with fail
          refine (clSplit_any (zstr 255) 128 _ (by omega) (by rw [zstr_size]; unfold maxLen; omega)).mono ?_
          rintro e w3 ⟨rfl, hb3⟩
          have hB3 := below_step (hBr.alloc hBr.size (zeros 255)) (Nat.le_refl _) hb3
          clear hmk hcv hBr hb3
          have hmk : (Instr.makeSlice 37 (.int .i64 254) (.int .i64 254)).run Try.prog w3 = .ok (.slice (some ⟨w3.heap.size, 0, none⟩) 254 254) (w3.alloc (zeros 254)) := run_make_u8 254 (by omega) w3
          have hcv := run_zstr 254 w3
          go_wp2_with fail
          refine (clFew_any (zstr 254) 200 _ (by rw [zstr_size]; unfold maxLen; omega) (by omega) (by omega)).mono ?_
          rintro e w4 ⟨rfl, hb4⟩
          have hB4 := below_step (hB3.alloc hB3.size (zeros 254)) (Nat.le_refl _) hb4
          clear hmk hcv hB3 hb4
          go_wp2_with fail
          refine (works_any _).mono ?_
          rintro e w5 ⟨rfl, hb5⟩
          go_wp2
          go_ret
          exact ⟨rfl, below_step hB4 (Nat.le_refl _) hb5⟩

end Go.Proofs.Ytkgdnpodohpppaa
