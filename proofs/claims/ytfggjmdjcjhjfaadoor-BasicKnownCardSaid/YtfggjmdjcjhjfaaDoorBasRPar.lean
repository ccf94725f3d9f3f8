/- The reference's parts: the walk. -/
import Derived.Test.YtfggjmdjcjhjfaaDoorBasDec
namespace Go.Proofs.YtfggjmdjcjhjfaaDoor
open Go.RowKit
set_option linter.unusedVariables false
set_option linter.unusedSimpArgs false

def rptB (t : ByteArray) : Bool := ptsB t && decide (oc t 0 % 2 = 1)
def rparR (t : ByteArray) : Ending := if rptB t then .returned (.tuple #[.int .i64 (hdN t : Int), .bool true]) else .returned (.tuple #[.int .i64 0, .bool false])
theorem rparR_no {t : ByteArray} (h : rptB t = false) : rparR t = .returned (.tuple #[.int .i64 0, .bool false]) := by unfold rparR; rw [h]; rfl
theorem tl_oc (t : ByteArray) (j : Nat) : oc (tl t) j = oc t (2 + j) := by
  unfold oc tl
  rw [bl_extract]
  simp only [List.getD, List.getElem?_take, List.getElem?_drop]
  split
  · rfl
  · rw [List.getElem?_eq_none (by rw [bl_length]; omega)]
/-- The octets of the length that was taken are those that were there, just if they are as many. -/
theorem len_same {s : ByteArray} (hk : tkOk s = true) : (lenL (tkN s)).length = tkZ s ↔ st (lenL (tkN s)) = s.extract 0 (tkZ s) := by
  have hb := bl_bytes s
  have h0 := oc_lt s 0
  have h1 := oc_lt s 1
  have hk0 : 0 < s.size ∧ (oc s 0 % 2 = 1 ∨ 2 ≤ s.size) := by unfold tkOk at hk; simpa using hk
  constructor
  · intro h
    apply bl_inj
    rw [bl_st (lenL_bytes (tkN_le s)), bl_extract, List.drop_zero, Nat.sub_zero]
    by_cases ho : oc s 0 % 2 = 1
    · have hz : tkZ s = 1 := by unfold tkZ; rw [if_pos ho]
      have hn : tkN s = oc s 0 / 2 := by unfold tkN; rw [if_pos ho]
      rw [hz, hn]
      have h1 := take_succ_getD (bl s) 0 (by rw [bl_length]; omega)
      rw [List.take_zero] at h1
      rw [h1]
      unfold lenL
      rw [if_pos (by omega)]
      show _ = [oc s 0]
      congr 1
      omega
    · have hz : tkZ s = 2 := by unfold tkZ; rw [if_neg ho]
      have hn : tkN s = oc s 0 / 2 + 128 * oc s 1 := by unfold tkN; rw [if_neg ho]
      rw [hz, hn] at h
      rw [hz, hn]
      have q0 := take_succ_getD (bl s) 0 (by rw [bl_length]; omega)
      have q1 := take_succ_getD (bl s) 1 (by rw [bl_length]; omega)
      rw [List.take_zero] at q0
      rw [q1, q0]
      rw [lenL_len] at h
      unfold lenL
      rw [if_neg (by intro hlt; rw [if_pos hlt] at h; omega)]
      show _ = [oc s 0, oc s 1]
      congr 1
      · omega
      · congr 1; omega
  · intro h
    have := congrArg ByteArray.size h
    rw [st_size, ByteArray.size_extract] at this
    have hz : tkZ s ≤ s.size := by unfold tkZ; split <;> omega
    omega


set_option maxRecDepth 100000 in
set_option maxHeartbeats 4000000 in
theorem rparts_any (t : ByteArray) (w : World) (ht : t.size ≤ 100000) :
    Calls Tryd.prog 31 #[.string t] w fun e w' => e = rparR t ∧ Below w.heap.size w w' := by
  by_cases h4 : t.size < 4
  · have hR := rparR_no (t := t) (by unfold rptB ptsB; rw [decide_eq_false (by omega)]; rfl)
    rw [hR]
    have h4' : (t.size : Int) < 4 := by omega
    clear hR
    go_enter Tryd.func31, Tryd.ntmps31
    go_wp2
    go_ret2
    exact ⟨rfl, Below.refl _ _⟩
  have h4' : ¬ (t.size : Int) < 4 := by omega
  have hq := oc_at t 0 (by omega)
  have hl := oc_lt t 0
  have hp : 0 < t.size := by omega
  by_cases hev : oc t 0 % 2 = 0
  · have hR := rparR_no (t := t) (by unfold rptB; rw [decide_eq_false (by omega)]; simp)
    rw [hR]
    have hb0 : (oc t 0 : Int) % 2 = 0 := by omega
    clear hR hev
    generalize oc t 0 = A at *
    go_enter Tryd.func31, Tryd.ntmps31
    go_wp2
    go_ret2
    exact ⟨rfl, Below.refl _ _⟩
  have hb0 : (oc t 0 : Int) % 2 = 1 := by omega
  by_cases h9 : oc t 0 = 249
  · have hR := rparR_no (t := t) (by unfold rptB ptsB; rw [decide_eq_true h9]; simp)
    rw [hR]
    rw [h9] at hq
    clear hR
    go_enter Tryd.func31, Tryd.ntmps31
    go_wp2
    go_ret2
    exact ⟨rfl, Below.refl _ _⟩
  have t2 : (((oc t 0 : Nat) : Int) == 249) = false := by rw [beq_eq_false_iff_ne]; omega
  have h2s : 2 ≤ t.size := by omega
  obtain ⟨U, hU⟩ : ∃ U, t.extract 2 t.size = U := ⟨_, rfl⟩
  have hUs : U.size = t.size - 2 := by rw [← hU, ByteArray.size_extract]; omega
  have hUs2 : U.size ≤ 100000 := by omega
  have hB : rptB t = (tkOk U && (decide ((lenL (tkN U)).length = tkZ U) && decide (2 + tkZ U + tkN U + 1 = t.size))) := by
    unfold rptB ptsB hdN tl
    rw [hU, decide_eq_true (show 4 ≤ t.size by omega), decide_eq_false h9, decide_eq_true (show oc t 0 % 2 = 1 by omega)]
    simp
  have HB := hide hB
  have HUe := hide hU
  by_cases hk : tkOk U = false
  · have hR := rparR_no (t := t) (by rw [HB.out, hk]; rfl)
    rw [hR]
    have HT := hide (show tkR U = .returned (.tuple #[.int .i64 0, .int .i64 0, .int .i64 20]) by unfold tkR; rw [hk]; rfl)
    clear hR hB hU hk h9
    generalize oc t 0 = A at *
    go_enter Tryd.func31, Tryd.ntmps31
    go_wp2_with fail
    rw [HUe.out]
    refine (rtake_any U _ hUs2).mono ?_
    rintro e w2 ⟨rfl, hb2⟩
    rw [HT.out]
    go_upto_region 4 with (fail)
    have hS : Below w.heap.size w w2.drew := hb2.drew
    refine wp_region_held (S := Below w.heap.size w) (by kernel_rfl) ?_
    change wpAnyH _ _ _ _ _ _ _ _ (World.drew _)
    refine take_atH 0 28 hS rfl rfl (by kernel_rfl) (by kernel_rfl) (by kernel_rfl) (fun _ _ _ h => h) rfl (fun wq hq => by go_simp; first | done | with_reducible rfl) ?_
    simp only [Act.put, List.setIfInBounds_toArray, List.set_cons_zero, List.set_cons_succ]
    refine take_atH 1 29 hS rfl rfl (by kernel_rfl) (by kernel_rfl) (by kernel_rfl) (fun _ _ _ h => h) rfl (fun wq hq => by go_simp; first | done | with_reducible rfl) ?_
    simp only [Act.put, List.setIfInBounds_toArray, List.set_cons_zero, List.set_cons_succ]
    refine take_atH 2 30 hS rfl rfl (by kernel_rfl) (by kernel_rfl) (by kernel_rfl) (fun _ _ _ h => h) rfl (fun wq hq => by go_simp; first | done | with_reducible rfl) ?_
    simp only [Act.put, List.setIfInBounds_toArray, List.set_cons_zero, List.set_cons_succ]
    refine skip_atH 3 31 hS rfl rfl (by kernel_rfl) (by kernel_rfl) (by kernel_rfl) (fun _ _ _ h => h) rfl ?_
    simp only [Act.put, List.setIfInBounds_toArray, List.set_cons_zero, List.set_cons_succ]
    refine skip_atH 4 32 hS rfl rfl (by kernel_rfl) (by kernel_rfl) (by kernel_rfl) (fun _ _ _ h => h) rfl ?_
    simp only [Act.put, List.setIfInBounds_toArray, List.set_cons_zero, List.set_cons_succ]
    refine skip_atH 5 33 hS rfl rfl (by kernel_rfl) (by kernel_rfl) (by kernel_rfl) (fun _ _ _ h => h) rfl ?_
    simp only [Act.put, List.setIfInBounds_toArray, List.set_cons_zero, List.set_cons_succ]
    refine skip_atH 6 34 hS rfl rfl (by kernel_rfl) (by kernel_rfl) (by kernel_rfl) (fun _ _ _ h => h) rfl ?_
    simp only [Act.put, List.setIfInBounds_toArray, List.set_cons_zero, List.set_cons_succ]
    refine skip_atH 7 35 hS rfl rfl (by kernel_rfl) (by kernel_rfl) (by kernel_rfl) (fun _ _ _ h => h) rfl ?_
    simp only [Act.put, List.setIfInBounds_toArray, List.set_cons_zero, List.set_cons_succ]
    refine skip_atH 8 36 hS rfl rfl (by kernel_rfl) (by kernel_rfl) (by kernel_rfl) (fun _ _ _ h => h) rfl ?_
    simp only [Act.put, List.setIfInBounds_toArray, List.set_cons_zero, List.set_cons_succ]
    refine skip_atH 9 37 hS rfl rfl (by kernel_rfl) (by kernel_rfl) (by kernel_rfl) (fun _ _ _ h => h) rfl ?_
    simp only [Act.put, List.setIfInBounds_toArray, List.set_cons_zero, List.set_cons_succ]
    refine take_atH 10 38 hS rfl rfl (by kernel_rfl) (by kernel_rfl) (by kernel_rfl) (fun _ _ _ h => h) rfl (fun wq hq => by go_simp; first | done | with_reducible rfl) ?_
    simp only [Act.put, List.setIfInBounds_toArray, List.set_cons_zero, List.set_cons_succ]
    refine take_atH 11 39 hS rfl rfl (by kernel_rfl) (by kernel_rfl) (by kernel_rfl) (fun _ _ _ h => h) rfl (fun wq hq => by go_simp; first | done | with_reducible rfl) ?_
    simp only [Act.put, List.setIfInBounds_toArray, List.set_cons_zero, List.set_cons_succ]
    refine skip_atH 12 40 hS rfl rfl (by kernel_rfl) (by kernel_rfl) (by kernel_rfl) (fun _ _ _ h => h) rfl ?_
    simp only [Act.put, List.setIfInBounds_toArray, List.set_cons_zero, List.set_cons_succ]
    refine skip_atH 13 41 hS rfl rfl (by kernel_rfl) (by kernel_rfl) (by kernel_rfl) (fun _ _ _ h => h) rfl ?_
    simp only [Act.put, List.setIfInBounds_toArray, List.set_cons_zero, List.set_cons_succ]
    refine skip_atH 14 42 hS rfl rfl (by kernel_rfl) (by kernel_rfl) (by kernel_rfl) (fun _ _ _ h => h) rfl ?_
    simp only [Act.put, List.setIfInBounds_toArray, List.set_cons_zero, List.set_cons_succ]
    refine skip_atH 15 43 hS rfl rfl (by kernel_rfl) (by kernel_rfl) (by kernel_rfl) (fun _ _ _ h => h) rfl ?_
    simp only [Act.put, List.setIfInBounds_toArray, List.set_cons_zero, List.set_cons_succ]
    refine skip_atH 16 44 hS rfl rfl (by kernel_rfl) (by kernel_rfl) (by kernel_rfl) (fun _ _ _ h => h) rfl ?_
    simp only [Act.put, List.setIfInBounds_toArray, List.set_cons_zero, List.set_cons_succ]
    refine skip_atH 17 45 hS rfl rfl (by kernel_rfl) (by kernel_rfl) (by kernel_rfl) (fun _ _ _ h => h) rfl ?_
    simp only [Act.put, List.setIfInBounds_toArray, List.set_cons_zero, List.set_cons_succ]
    refine skip_atH 18 46 hS rfl rfl (by kernel_rfl) (by kernel_rfl) (by kernel_rfl) (fun _ _ _ h => h) rfl ?_
    simp only [Act.put, List.setIfInBounds_toArray, List.set_cons_zero, List.set_cons_succ]
    refine skip_atH 19 47 hS rfl rfl (by kernel_rfl) (by kernel_rfl) (by kernel_rfl) (fun _ _ _ h => h) rfl ?_
    simp only [Act.put, List.setIfInBounds_toArray, List.set_cons_zero, List.set_cons_succ]
    refine take_atH 20 48 hS rfl rfl (by kernel_rfl) (by kernel_rfl) (by kernel_rfl) (fun _ _ _ h => h) rfl (fun wq hq => by go_simp; first | done | with_reducible rfl) ?_
    simp only [Act.put, List.setIfInBounds_toArray, List.set_cons_zero, List.set_cons_succ]
    refine wpAnyH_done (by kernel_rfl) ?_ _
    go_wp2
    go_ret2
    exact ⟨rfl, hS⟩
  have hk' : tkOk U = true := by simpa using hk
  have HT := hide (show tkR U = .returned (.tuple #[.int .i64 (tkN U : Int), .int .i64 (tkZ U : Int), .int .i64 0]) by unfold tkR; rw [hk']; rfl)
  have hN := tkN_le U
  have hZ := tkZ_or U
  have hsame := len_same hk'
  have hzU : tkZ U ≤ U.size := by
    have : 0 < U.size ∧ (oc U 0 % 2 = 1 ∨ 2 ≤ U.size) := by unfold tkOk at hk'; simpa using hk'
    unfold tkZ; split <;> omega
  have hUx : t.extract 2 (2 + tkZ U) = U.extract 0 (tkZ U) := by
    obtain ⟨z0, hz0⟩ : ∃ z0, tkZ U = z0 := ⟨_, rfl⟩
    rw [hz0] at hzU ⊢
    rw [← hU, ByteArray.extract_extract]
    congr 1
    omega
  rw [hk'] at HB
  have hPR : hdN t = 2 + tkZ U := by unfold hdN tl; rw [hU]
  obtain ⟨RES, hRES⟩ : ∃ RES, rparR t = RES := ⟨_, rfl⟩
  have hR : RES = if (decide ((lenL (tkN U)).length = tkZ U) && decide (2 + tkZ U + tkN U + 1 = t.size)) = true then .returned (.tuple #[.int .i64 ((2 + tkZ U : Nat) : Int), .bool true]) else .returned (.tuple #[.int .i64 0, .bool false]) := by
    rw [← hRES]
    unfold rparR
    rw [HB.out, hPR, Bool.true_and]
  rw [hRES]
  have HR := hide hR
  rw [← hUx] at hsame
  clear hRES hR hPR HB hB hk hk' h9 hUx
  generalize tkN U = n at *
  generalize oc t 0 = A at *
  have hzt : 2 + tkZ U ≤ t.size := by omega
  generalize tkZ U = z at *
  have wr7 : (3 : Int) ≤ (t.size : Int) := by omega
  have wr8 : (4 : Int) ≤ (t.size : Int) := by omega
  have wr1 : IntKind.i64.wrap 3 = 3 := rfl
  have wr2 : IntKind.i64.wrap 4 = 4 := rfl
  have wr3 : IntKind.i64.wrap (3 + (n : Int)) = 3 + (n : Int) := IntWalk.i64_in _ (by omega)
  have wr4 : IntKind.i64.wrap (4 + (n : Int)) = 4 + (n : Int) := IntWalk.i64_in _ (by omega)
  have wr5 : IntKind.i64.wrap (3 + (n : Int) + 1) = 3 + (n : Int) + 1 := IntWalk.i64_in _ (by omega)
  have wr6 : IntKind.i64.wrap (4 + (n : Int) + 1) = 4 + (n : Int) + 1 := IntWalk.i64_in _ (by omega)
  by_cases hz : (lenL n).length = z
  · rw [decide_eq_true hz, Bool.true_and] at HR
    have hx := hsame.1 hz
    have HX := hide hx.symm
    by_cases hs : 2 + z + n + 1 = t.size
    · rw [decide_eq_true hs, if_pos rfl] at HR
      rcases hZ with rfl | rfl
      all_goals
        clear hsame hz hU hUs hx
        go_enter Tryd.func31, Tryd.ntmps31
        go_wp2_with fail
        rw [HUe.out]
        refine (rtake_any U _ hUs2).mono ?_
        rintro e w2 ⟨rfl, hb2⟩
        rw [HT.out]
        go_upto_region 4 with (fail)
        have hS : Below w.heap.size w w2.drew := hb2.drew
        have hX2 := HX.out
        refine wp_region_held (S := Below w.heap.size w) (by kernel_rfl) ?_
        change wpAnyH _ _ _ _ _ _ _ _ (World.drew _)
        refine take_atH 0 28 hS rfl rfl (by kernel_rfl) (by kernel_rfl) (by kernel_rfl) (fun _ _ _ h => h) rfl (fun wq hq => by go_simp; first | done | with_reducible rfl) ?_
        simp only [Act.put, List.setIfInBounds_toArray, List.set_cons_zero, List.set_cons_succ]
        refine take_atH 1 29 hS rfl rfl (by kernel_rfl) (by kernel_rfl) (by kernel_rfl) (fun _ _ _ h => h) rfl (fun wq hq => by go_simp; first | done | with_reducible rfl) ?_
        simp only [Act.put, List.setIfInBounds_toArray, List.set_cons_zero, List.set_cons_succ]
        refine take_atH 2 30 hS rfl rfl (by kernel_rfl) (by kernel_rfl) (by kernel_rfl) (fun _ _ _ h => h) rfl (fun wq hq => by go_simp; first | done | with_reducible rfl) ?_
        simp only [Act.put, List.setIfInBounds_toArray, List.set_cons_zero, List.set_cons_succ]
        refine take_atH 3 31 hS rfl rfl (by kernel_rfl) (by kernel_rfl) (by kernel_rfl) (fun _ _ _ h => h) rfl (fun wq hq => by go_simp; first | done | with_reducible rfl) ?_
        simp only [Act.put, List.setIfInBounds_toArray, List.set_cons_zero, List.set_cons_succ]
        refine take_atH 5 33 hS rfl rfl (by kernel_rfl) (by kernel_rfl) (by kernel_rfl) (fun _ _ _ h => h) rfl (fun wq hq => by go_simp; first | done | with_reducible rfl) ?_
        simp only [Act.put, List.setIfInBounds_toArray, List.set_cons_zero, List.set_cons_succ]
        refine take_atH 6 34 hS rfl rfl (by kernel_rfl) (by kernel_rfl) (by kernel_rfl) (fun _ _ _ h => h) rfl (fun wq hq => by go_simp; first | done | with_reducible rfl) ?_
        simp only [Act.put, List.setIfInBounds_toArray, List.set_cons_zero, List.set_cons_succ]
        refine take_atH 7 35 hS rfl rfl (by kernel_rfl) (by kernel_rfl) (by kernel_rfl) (fun _ _ _ h => h) rfl (fun wq hq => by go_simp; first | done | with_reducible rfl) ?_
        simp only [Act.put, List.setIfInBounds_toArray, List.set_cons_zero, List.set_cons_succ]
        refine take_atH 8 36 hS rfl rfl (by kernel_rfl) (by kernel_rfl) (by kernel_rfl) (fun _ _ _ h => h) rfl (fun wq hq => by go_simp; first | done | with_reducible rfl) ?_
        simp only [Act.put, List.setIfInBounds_toArray, List.set_cons_zero, List.set_cons_succ]
        refine lone_atH 4 rfl (by kernel_rfl) rfl (fun K hK => ?_)
        go_simp
        refine (rlength_any _ _ hN).mono ?_; rintro e wN1 ⟨rfl, bN1⟩
        refine (fun hN1 => hK _ _ hN1 ?_) (below_step hS (Nat.le_refl _) bN1); clear hK K
        refine take_atH 9 37 hN1 rfl rfl (by kernel_rfl) (by kernel_rfl) (by kernel_rfl) (fun _ _ _ h => h) rfl (fun wq hq => by go_simp; first | done | with_reducible rfl) ?_
        simp only [Act.put, List.setIfInBounds_toArray, List.set_cons_zero, List.set_cons_succ]
        refine take_atH 10 38 hN1 rfl rfl (by kernel_rfl) (by kernel_rfl) (by kernel_rfl) (fun _ _ _ h => h) rfl (fun wq hq => by go_simp; first | done | with_reducible rfl) ?_
        simp only [Act.put, List.setIfInBounds_toArray, List.set_cons_zero, List.set_cons_succ]
        refine take_atH 11 39 hN1 rfl rfl (by kernel_rfl) (by kernel_rfl) (by kernel_rfl) (fun _ _ _ h => h) rfl (fun wq hq => by go_simp; first | done | with_reducible rfl) ?_
        simp only [Act.put, List.setIfInBounds_toArray, List.set_cons_zero, List.set_cons_succ]
        refine take_atH 12 40 hN1 rfl rfl (by kernel_rfl) (by kernel_rfl) (by kernel_rfl) (fun _ _ _ h => h) rfl (fun wq hq => by go_simp; first | done | with_reducible rfl) ?_
        simp only [Act.put, List.setIfInBounds_toArray, List.set_cons_zero, List.set_cons_succ]
        refine take_atH 13 41 hN1 rfl rfl (by kernel_rfl) (by kernel_rfl) (by kernel_rfl) (fun _ _ _ h => h) rfl (fun wq hq => by go_simp; first | done | with_reducible rfl) ?_
        simp only [Act.put, List.setIfInBounds_toArray, List.set_cons_zero, List.set_cons_succ]
        refine take_atH 14 42 hN1 rfl rfl (by kernel_rfl) (by kernel_rfl) (by kernel_rfl) (fun _ _ _ h => h) rfl (fun wq hq => by go_simp; first | done | with_reducible rfl) ?_
        simp only [Act.put, List.setIfInBounds_toArray, List.set_cons_zero, List.set_cons_succ]
        refine take_atH 15 43 hN1 rfl rfl (by kernel_rfl) (by kernel_rfl) (by kernel_rfl) (fun _ _ _ h => h) rfl (fun wq hq => by go_simp; first | done | with_reducible rfl) ?_
        simp only [Act.put, List.setIfInBounds_toArray, List.set_cons_zero, List.set_cons_succ]
        refine take_atH 16 44 hN1 rfl rfl (by kernel_rfl) (by kernel_rfl) (by kernel_rfl) (fun _ _ _ h => h) rfl (fun wq hq => by go_simp; first | done | with_reducible rfl) ?_
        simp only [Act.put, List.setIfInBounds_toArray, List.set_cons_zero, List.set_cons_succ]
        refine take_atH 17 45 hN1 rfl rfl (by kernel_rfl) (by kernel_rfl) (by kernel_rfl) (fun _ _ _ h => h) rfl (fun wq hq => by go_simp; first | done | with_reducible rfl) ?_
        simp only [Act.put, List.setIfInBounds_toArray, List.set_cons_zero, List.set_cons_succ]
        refine take_atH 18 46 hN1 rfl rfl (by kernel_rfl) (by kernel_rfl) (by kernel_rfl) (fun _ _ _ h => h) rfl (fun wq hq => by go_simp; first | done | with_reducible rfl) ?_
        simp only [Act.put, List.setIfInBounds_toArray, List.set_cons_zero, List.set_cons_succ]
        refine take_atH 19 47 hN1 rfl rfl (by kernel_rfl) (by kernel_rfl) (by kernel_rfl) (fun _ _ _ h => h) rfl (fun wq hq => by go_simp; first | done | with_reducible rfl) ?_
        simp only [Act.put, List.setIfInBounds_toArray, List.set_cons_zero, List.set_cons_succ]
        refine take_atH 20 48 hN1 rfl rfl (by kernel_rfl) (by kernel_rfl) (by kernel_rfl) (fun _ _ _ h => h) rfl (fun wq hq => by go_simp; first | done | with_reducible rfl) ?_
        simp only [Act.put, List.setIfInBounds_toArray, List.set_cons_zero, List.set_cons_succ]
        refine wpAnyH_done (by kernel_rfl) ?_ _
        go_wp2
        go_ret2
        exact ⟨HR.out.symm, hN1⟩
    · rw [decide_eq_false hs, if_neg (by simp)] at HR
      rcases hZ with rfl | rfl
      all_goals
        clear hsame hz hU hUs hx
        go_enter Tryd.func31, Tryd.ntmps31
        go_wp2_with fail
        rw [HUe.out]
        refine (rtake_any U _ hUs2).mono ?_
        rintro e w2 ⟨rfl, hb2⟩
        rw [HT.out]
        go_upto_region 4 with (fail)
        have hS : Below w.heap.size w w2.drew := hb2.drew
        have hX2 := HX.out
        refine wp_region_held (S := Below w.heap.size w) (by kernel_rfl) ?_
        change wpAnyH _ _ _ _ _ _ _ _ (World.drew _)
        refine take_atH 0 28 hS rfl rfl (by kernel_rfl) (by kernel_rfl) (by kernel_rfl) (fun _ _ _ h => h) rfl (fun wq hq => by go_simp; first | done | with_reducible rfl) ?_
        simp only [Act.put, List.setIfInBounds_toArray, List.set_cons_zero, List.set_cons_succ]
        refine take_atH 1 29 hS rfl rfl (by kernel_rfl) (by kernel_rfl) (by kernel_rfl) (fun _ _ _ h => h) rfl (fun wq hq => by go_simp; first | done | with_reducible rfl) ?_
        simp only [Act.put, List.setIfInBounds_toArray, List.set_cons_zero, List.set_cons_succ]
        refine take_atH 2 30 hS rfl rfl (by kernel_rfl) (by kernel_rfl) (by kernel_rfl) (fun _ _ _ h => h) rfl (fun wq hq => by go_simp; first | done | with_reducible rfl) ?_
        simp only [Act.put, List.setIfInBounds_toArray, List.set_cons_zero, List.set_cons_succ]
        refine take_atH 3 31 hS rfl rfl (by kernel_rfl) (by kernel_rfl) (by kernel_rfl) (fun _ _ _ h => h) rfl (fun wq hq => by go_simp; first | done | with_reducible rfl) ?_
        simp only [Act.put, List.setIfInBounds_toArray, List.set_cons_zero, List.set_cons_succ]
        refine take_atH 5 33 hS rfl rfl (by kernel_rfl) (by kernel_rfl) (by kernel_rfl) (fun _ _ _ h => h) rfl (fun wq hq => by go_simp; first | done | with_reducible rfl) ?_
        simp only [Act.put, List.setIfInBounds_toArray, List.set_cons_zero, List.set_cons_succ]
        refine take_atH 6 34 hS rfl rfl (by kernel_rfl) (by kernel_rfl) (by kernel_rfl) (fun _ _ _ h => h) rfl (fun wq hq => by go_simp; first | done | with_reducible rfl) ?_
        simp only [Act.put, List.setIfInBounds_toArray, List.set_cons_zero, List.set_cons_succ]
        refine take_atH 7 35 hS rfl rfl (by kernel_rfl) (by kernel_rfl) (by kernel_rfl) (fun _ _ _ h => h) rfl (fun wq hq => by go_simp; first | done | with_reducible rfl) ?_
        simp only [Act.put, List.setIfInBounds_toArray, List.set_cons_zero, List.set_cons_succ]
        refine take_atH 8 36 hS rfl rfl (by kernel_rfl) (by kernel_rfl) (by kernel_rfl) (fun _ _ _ h => h) rfl (fun wq hq => by go_simp; first | done | with_reducible rfl) ?_
        simp only [Act.put, List.setIfInBounds_toArray, List.set_cons_zero, List.set_cons_succ]
        refine lone_atH 4 rfl (by kernel_rfl) rfl (fun K hK => ?_)
        go_simp
        refine (rlength_any _ _ hN).mono ?_; rintro e wN1 ⟨rfl, bN1⟩
        refine (fun hN1 => hK _ _ hN1 ?_) (below_step hS (Nat.le_refl _) bN1); clear hK K
        refine take_atH 9 37 hN1 rfl rfl (by kernel_rfl) (by kernel_rfl) (by kernel_rfl) (fun _ _ _ h => h) rfl (fun wq hq => by go_simp; first | done | with_reducible rfl) ?_
        simp only [Act.put, List.setIfInBounds_toArray, List.set_cons_zero, List.set_cons_succ]
        refine take_atH 10 38 hN1 rfl rfl (by kernel_rfl) (by kernel_rfl) (by kernel_rfl) (fun _ _ _ h => h) rfl (fun wq hq => by go_simp; first | done | with_reducible rfl) ?_
        simp only [Act.put, List.setIfInBounds_toArray, List.set_cons_zero, List.set_cons_succ]
        refine take_atH 11 39 hN1 rfl rfl (by kernel_rfl) (by kernel_rfl) (by kernel_rfl) (fun _ _ _ h => h) rfl (fun wq hq => by go_simp; first | done | with_reducible rfl) ?_
        simp only [Act.put, List.setIfInBounds_toArray, List.set_cons_zero, List.set_cons_succ]
        refine take_atH 12 40 hN1 rfl rfl (by kernel_rfl) (by kernel_rfl) (by kernel_rfl) (fun _ _ _ h => h) rfl (fun wq hq => by go_simp; first | done | with_reducible rfl) ?_
        simp only [Act.put, List.setIfInBounds_toArray, List.set_cons_zero, List.set_cons_succ]
        refine take_atH 13 41 hN1 rfl rfl (by kernel_rfl) (by kernel_rfl) (by kernel_rfl) (fun _ _ _ h => h) rfl (fun wq hq => by go_simp; first | done | with_reducible rfl) ?_
        simp only [Act.put, List.setIfInBounds_toArray, List.set_cons_zero, List.set_cons_succ]
        refine take_atH 14 42 hN1 rfl rfl (by kernel_rfl) (by kernel_rfl) (by kernel_rfl) (fun _ _ _ h => h) rfl (fun wq hq => by go_simp; first | done | with_reducible rfl) ?_
        simp only [Act.put, List.setIfInBounds_toArray, List.set_cons_zero, List.set_cons_succ]
        refine take_atH 15 43 hN1 rfl rfl (by kernel_rfl) (by kernel_rfl) (by kernel_rfl) (fun _ _ _ h => h) rfl (fun wq hq => by go_simp; first | done | with_reducible rfl) ?_
        simp only [Act.put, List.setIfInBounds_toArray, List.set_cons_zero, List.set_cons_succ]
        refine take_atH 16 44 hN1 rfl rfl (by kernel_rfl) (by kernel_rfl) (by kernel_rfl) (fun _ _ _ h => h) rfl (fun wq hq => by go_simp; first | done | with_reducible rfl) ?_
        simp only [Act.put, List.setIfInBounds_toArray, List.set_cons_zero, List.set_cons_succ]
        refine take_atH 17 45 hN1 rfl rfl (by kernel_rfl) (by kernel_rfl) (by kernel_rfl) (fun _ _ _ h => h) rfl (fun wq hq => by go_simp; first | done | with_reducible rfl) ?_
        simp only [Act.put, List.setIfInBounds_toArray, List.set_cons_zero, List.set_cons_succ]
        refine take_atH 18 46 hN1 rfl rfl (by kernel_rfl) (by kernel_rfl) (by kernel_rfl) (fun _ _ _ h => h) rfl (fun wq hq => by go_simp; first | done | with_reducible rfl) ?_
        simp only [Act.put, List.setIfInBounds_toArray, List.set_cons_zero, List.set_cons_succ]
        refine take_atH 19 47 hN1 rfl rfl (by kernel_rfl) (by kernel_rfl) (by kernel_rfl) (fun _ _ _ h => h) rfl (fun wq hq => by go_simp; first | done | with_reducible rfl) ?_
        simp only [Act.put, List.setIfInBounds_toArray, List.set_cons_zero, List.set_cons_succ]
        refine take_atH 20 48 hN1 rfl rfl (by kernel_rfl) (by kernel_rfl) (by kernel_rfl) (fun _ _ _ h => h) rfl (fun wq hq => by go_simp; first | done | with_reducible rfl) ?_
        simp only [Act.put, List.setIfInBounds_toArray, List.set_cons_zero, List.set_cons_succ]
        refine wpAnyH_done (by kernel_rfl) ?_ _
        go_wp2
        go_ret2
        exact ⟨HR.out.symm, hN1⟩
  · rw [decide_eq_false hz, Bool.false_and, if_neg (by simp)] at HR
    have hx : ¬ st (lenL n) = t.extract 2 (2 + z) := fun h => hz (hsame.2 h)
    have hxb : ((st (lenL n)).toList == (t.extract 2 (2 + z)).toList) = false := by
      rw [beq_eq_false_iff_ne]
      intro h
      rw [Lib.toList_data, Lib.toList_data] at h
      exact hx (ByteArray.ext (Array.ext' h))
    rcases hZ with rfl | rfl
    all_goals
      clear hsame hz hU hUs
      go_enter Tryd.func31, Tryd.ntmps31
      go_wp2_with fail
      rw [HUe.out]
      refine (rtake_any U _ hUs2).mono ?_
      rintro e w2 ⟨rfl, hb2⟩
      rw [HT.out]
      go_upto_region 4 with (fail)
      have hS : Below w.heap.size w w2.drew := hb2.drew
      refine wp_region_held (S := Below w.heap.size w) (by kernel_rfl) ?_
      change wpAnyH _ _ _ _ _ _ _ _ (World.drew _)
      refine take_atH 0 28 hS rfl rfl (by kernel_rfl) (by kernel_rfl) (by kernel_rfl) (fun _ _ _ h => h) rfl (fun wq hq => by go_simp; first | done | with_reducible rfl) ?_
      simp only [Act.put, List.setIfInBounds_toArray, List.set_cons_zero, List.set_cons_succ]
      refine take_atH 1 29 hS rfl rfl (by kernel_rfl) (by kernel_rfl) (by kernel_rfl) (fun _ _ _ h => h) rfl (fun wq hq => by go_simp; first | done | with_reducible rfl) ?_
      simp only [Act.put, List.setIfInBounds_toArray, List.set_cons_zero, List.set_cons_succ]
      refine take_atH 2 30 hS rfl rfl (by kernel_rfl) (by kernel_rfl) (by kernel_rfl) (fun _ _ _ h => h) rfl (fun wq hq => by go_simp; first | done | with_reducible rfl) ?_
      simp only [Act.put, List.setIfInBounds_toArray, List.set_cons_zero, List.set_cons_succ]
      refine take_atH 3 31 hS rfl rfl (by kernel_rfl) (by kernel_rfl) (by kernel_rfl) (fun _ _ _ h => h) rfl (fun wq hq => by go_simp; first | done | with_reducible rfl) ?_
      simp only [Act.put, List.setIfInBounds_toArray, List.set_cons_zero, List.set_cons_succ]
      refine take_atH 5 33 hS rfl rfl (by kernel_rfl) (by kernel_rfl) (by kernel_rfl) (fun _ _ _ h => h) rfl (fun wq hq => by go_simp; first | done | with_reducible rfl) ?_
      simp only [Act.put, List.setIfInBounds_toArray, List.set_cons_zero, List.set_cons_succ]
      refine take_atH 6 34 hS rfl rfl (by kernel_rfl) (by kernel_rfl) (by kernel_rfl) (fun _ _ _ h => h) rfl (fun wq hq => by go_simp; first | done | with_reducible rfl) ?_
      simp only [Act.put, List.setIfInBounds_toArray, List.set_cons_zero, List.set_cons_succ]
      refine take_atH 7 35 hS rfl rfl (by kernel_rfl) (by kernel_rfl) (by kernel_rfl) (fun _ _ _ h => h) rfl (fun wq hq => by go_simp; first | done | with_reducible rfl) ?_
      simp only [Act.put, List.setIfInBounds_toArray, List.set_cons_zero, List.set_cons_succ]
      refine take_atH 8 36 hS rfl rfl (by kernel_rfl) (by kernel_rfl) (by kernel_rfl) (fun _ _ _ h => h) rfl (fun wq hq => by go_simp; first | done | with_reducible rfl) ?_
      simp only [Act.put, List.setIfInBounds_toArray, List.set_cons_zero, List.set_cons_succ]
      refine lone_atH 4 rfl (by kernel_rfl) rfl (fun K hK => ?_)
      go_simp
      refine (rlength_any _ _ hN).mono ?_; rintro e wN1 ⟨rfl, bN1⟩
      refine (fun hN1 => hK _ _ hN1 ?_) (below_step hS (Nat.le_refl _) bN1); clear hK K
      refine take_atH 9 37 hN1 rfl rfl (by kernel_rfl) (by kernel_rfl) (by kernel_rfl) (fun _ _ _ h => h) rfl (fun wq hq => by go_simp; first | done | with_reducible rfl) ?_
      simp only [Act.put, List.setIfInBounds_toArray, List.set_cons_zero, List.set_cons_succ]
      refine take_atH 10 38 hN1 rfl rfl (by kernel_rfl) (by kernel_rfl) (by kernel_rfl) (fun _ _ _ h => h) rfl (fun wq hq => by go_simp; first | done | with_reducible rfl) ?_
      simp only [Act.put, List.setIfInBounds_toArray, List.set_cons_zero, List.set_cons_succ]
      refine take_atH 11 39 hN1 rfl rfl (by kernel_rfl) (by kernel_rfl) (by kernel_rfl) (fun _ _ _ h => h) rfl (fun wq hq => by go_simp; first | done | with_reducible rfl) ?_
      simp only [Act.put, List.setIfInBounds_toArray, List.set_cons_zero, List.set_cons_succ]
      refine skip_atH 12 40 hN1 rfl rfl (by kernel_rfl) (by kernel_rfl) (by kernel_rfl) (fun _ _ _ h => h) rfl ?_
      simp only [Act.put, List.setIfInBounds_toArray, List.set_cons_zero, List.set_cons_succ]
      refine skip_atH 13 41 hN1 rfl rfl (by kernel_rfl) (by kernel_rfl) (by kernel_rfl) (fun _ _ _ h => h) rfl ?_
      simp only [Act.put, List.setIfInBounds_toArray, List.set_cons_zero, List.set_cons_succ]
      refine skip_atH 14 42 hN1 rfl rfl (by kernel_rfl) (by kernel_rfl) (by kernel_rfl) (fun _ _ _ h => h) rfl ?_
      simp only [Act.put, List.setIfInBounds_toArray, List.set_cons_zero, List.set_cons_succ]
      refine skip_atH 15 43 hN1 rfl rfl (by kernel_rfl) (by kernel_rfl) (by kernel_rfl) (fun _ _ _ h => h) rfl ?_
      simp only [Act.put, List.setIfInBounds_toArray, List.set_cons_zero, List.set_cons_succ]
      refine skip_atH 16 44 hN1 rfl rfl (by kernel_rfl) (by kernel_rfl) (by kernel_rfl) (fun _ _ _ h => h) rfl ?_
      simp only [Act.put, List.setIfInBounds_toArray, List.set_cons_zero, List.set_cons_succ]
      refine skip_atH 17 45 hN1 rfl rfl (by kernel_rfl) (by kernel_rfl) (by kernel_rfl) (fun _ _ _ h => h) rfl ?_
      simp only [Act.put, List.setIfInBounds_toArray, List.set_cons_zero, List.set_cons_succ]
      refine skip_atH 18 46 hN1 rfl rfl (by kernel_rfl) (by kernel_rfl) (by kernel_rfl) (fun _ _ _ h => h) rfl ?_
      simp only [Act.put, List.setIfInBounds_toArray, List.set_cons_zero, List.set_cons_succ]
      refine skip_atH 19 47 hN1 rfl rfl (by kernel_rfl) (by kernel_rfl) (by kernel_rfl) (fun _ _ _ h => h) rfl ?_
      simp only [Act.put, List.setIfInBounds_toArray, List.set_cons_zero, List.set_cons_succ]
      refine take_atH 20 48 hN1 rfl rfl (by kernel_rfl) (by kernel_rfl) (by kernel_rfl) (fun _ _ _ h => h) rfl (fun wq hq => by go_simp; first | done | with_reducible rfl) ?_
      simp only [Act.put, List.setIfInBounds_toArray, List.set_cons_zero, List.set_cons_succ]
      refine wpAnyH_done (by kernel_rfl) ?_ _
      go_wp2
      go_ret2
      exact ⟨HR.out.symm, hN1⟩
end Go.Proofs.YtfggjmdjcjhjfaaDoor
