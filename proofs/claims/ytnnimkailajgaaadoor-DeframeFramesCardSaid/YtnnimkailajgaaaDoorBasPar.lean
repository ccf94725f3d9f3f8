/- basic.parts: the walk. -/
import Derived.Test.YtnnimkailajgaaaDoorBasEnc
namespace Go.Proofs.YtnnimkailajgaaaDoor.Bs
open Go.RowKit
set_option linter.unusedVariables false
set_option linter.unusedSimpArgs false

/-- What is behind the address and the control octet; is it a body? how long is its head? -/
def tl (t : ByteArray) : ByteArray := t.extract 2 t.size
def hdN (t : ByteArray) : Nat := 2 + tkZ (tl t)
def ptsB (t : ByteArray) : Bool := decide (4 ≤ t.size) && (!decide (oc t 0 = 249) && (tkOk (tl t) && (decide ((lenL (tkN (tl t))).length = tkZ (tl t)) && decide (hdN t + tkN (tl t) + 1 = t.size))))
def parR (t : ByteArray) : Ending := if ptsB t then .returned (.tuple #[.string (t.extract 0 (hdN t)), .string (t.extract (hdN t) (t.size - 1)), .bool true]) else .returned (.tuple #[.string ⟨#[]⟩, .string ⟨#[]⟩, .bool false])
theorem parR_no {t : ByteArray} (h : ptsB t = false) : parR t = .returned (.tuple #[.string ⟨#[]⟩, .string ⟨#[]⟩, .bool false]) := by unfold parR; rw [h]; rfl
theorem tkZ_or (s : ByteArray) : tkZ s = 1 ∨ tkZ s = 2 := by unfold tkZ; split <;> simp

set_option maxRecDepth 100000 in
set_option maxHeartbeats 4000000 in
theorem parts_any (t : ByteArray) (w : World) (ht : t.size ≤ 100000) :
    Calls Tryd.prog 47 #[.string t] w fun e w' => e = parR t ∧ Below w.heap.size w w' := by
  by_cases h4 : t.size < 4
  · have hR := parR_no (t := t) (by unfold ptsB; rw [decide_eq_false (by omega)]; rfl)
    rw [hR]
    have h4' : (t.size : Int) < 4 := by omega
    clear hR
    go_enter Tryd.func47, Tryd.ntmps47
    go_wp2
    go_ret3
    exact ⟨rfl, Below.refl _ _⟩
  have h4' : ¬ (t.size : Int) < 4 := by omega
  have hq := oc_at t 0 (by omega)
  have hl := oc_lt t 0
  by_cases h9 : oc t 0 = 249
  · have hR := parR_no (t := t) (by unfold ptsB; rw [decide_eq_true (by omega), decide_eq_true h9]; rfl)
    rw [hR]
    rw [h9] at hq
    clear hR
    have hp : 0 < t.size := by omega
    go_enter Tryd.func47, Tryd.ntmps47
    go_wp2
    go_ret3
    exact ⟨rfl, Below.refl _ _⟩
  have t1 : ((oc t 0 : Nat) : Int) ≠ 249 := by omega
  have t2 : (((oc t 0 : Nat) : Int) == 249) = false := by rw [beq_eq_false_iff_ne]; exact t1
  have hp : 0 < t.size := by omega
  have h2s : 2 ≤ t.size := by omega
  obtain ⟨U, hU⟩ : ∃ U, t.extract 2 t.size = U := ⟨_, rfl⟩
  have hUs : U.size ≤ 100000 := by rw [← hU, ByteArray.size_extract]; omega
  have hB : ptsB t = (tkOk U && (decide ((lenL (tkN U)).length = tkZ U) && decide (2 + tkZ U + tkN U + 1 = t.size))) := by
    unfold ptsB hdN tl
    rw [hU, decide_eq_true (show 4 ≤ t.size by omega), decide_eq_false h9]
    rfl
  have HB := hide hB
  have HUe := hide hU
  by_cases hk : tkOk U = false
  · have hR := parR_no (t := t) (by rw [HB.out, hk]; rfl)
    rw [hR]
    have HT := hide (show tkR U = .returned (.tuple #[.int .i64 0, .int .i64 0, .int .i64 20]) by unfold tkR; rw [hk]; rfl)
    clear hR hB hU hk h9
    generalize oc t 0 = A at *
    go_enter Tryd.func47, Tryd.ntmps47
    go_wp2_with fail
    rw [HUe.out]
    refine (take_any U _ hUs).mono ?_
    rintro e w2 ⟨rfl, hb2⟩
    rw [HT.out]
    go_wp2
    go_ret3
    exact ⟨rfl, hb2⟩
  have hk' : tkOk U = true := by simpa using hk
  have HT := hide (show tkR U = .returned (.tuple #[.int .i64 (tkN U : Int), .int .i64 (tkZ U : Int), .int .i64 0]) by unfold tkR; rw [hk']; rfl)
  have hN := tkN_le U
  have hZ := tkZ_or U
  rw [hk'] at HB
  have hPR : hdN t = 2 + tkZ U := by unfold hdN tl; rw [hU]
  obtain ⟨RES, hRES⟩ : ∃ RES, parR t = RES := ⟨_, rfl⟩
  have hR : RES = if (decide ((lenL (tkN U)).length = tkZ U) && decide (2 + tkZ U + tkN U + 1 = t.size)) = true then .returned (.tuple #[.string (t.extract 0 (2 + tkZ U)), .string (t.extract (2 + tkZ U) (t.size - 1)), .bool true]) else .returned (.tuple #[.string ⟨#[]⟩, .string ⟨#[]⟩, .bool false]) := by
    rw [← hRES]
    unfold parR
    rw [HB.out, hPR, Bool.true_and]
  rw [hRES]
  have HR := hide hR
  clear hRES hR hPR HB hB hk hk' h9
  generalize tkN U = n at *
  generalize oc t 0 = A at *
  have hLL := lenL_len n
  have hLs : (st (lenL n)).size = (lenL n).length := st_size _
  generalize tkZ U = z at *
  by_cases hz : (lenL n).length = z
  · rw [decide_eq_true hz, Bool.true_and] at HR
    have hz2 : (st (lenL n)).size = z := by rw [hLs, hz]
    by_cases hs : 2 + z + n + 1 = t.size
    · rw [decide_eq_true hs, if_pos rfl] at HR
      rcases hZ with rfl | rfl
      all_goals
        have M0 : t.size - 1 ≤ t.size := by omega
        obtain ⟨M, hM⟩ : ∃ M, t.size - 1 = M := ⟨_, rfl⟩
        rw [hM] at HR M0
        have hw : IntKind.i64.wrap ((t.size : Int) - 1) = (M : Int) := by rw [IntWalk.i64_in _ (by omega)]; omega
        first
          | have hM3 : 4 ≤ M := by omega
          | have hM3 : 3 ≤ M := by omega
        have hM4 : n + 3 ≤ M := by omega
        have hMi : (M : Int) ≤ (t.size : Int) := by omega
        clear hM hLL hLs hz hU
        go_enter Tryd.func47, Tryd.ntmps47
        go_wp2_with fail
        rw [HUe.out]
        refine (take_any U _ hUs).mono ?_
        rintro e w2 ⟨rfl, hb2⟩
        rw [HT.out]
        go_wp2_with fail
        refine (length_any n _ hN).mono ?_
        rintro e w3 ⟨rfl, hb3⟩
        go_wp2
        go_quiet (fail)
        go_wp2
        go_ret3
        exact ⟨HR.out.symm, below_drewN (hb2.trans (hb3.mono hb2.size)) _⟩
    · rw [decide_eq_false hs, if_neg (by simp)] at HR
      have hsi : ¬ ((2 + z + n + 1 : Nat) : Int) = (t.size : Int) := by omega
      rcases hZ with rfl | rfl
      all_goals
        clear hLL hLs hz hU
        go_enter Tryd.func47, Tryd.ntmps47
        go_wp2_with fail
        rw [HUe.out]
        refine (take_any U _ hUs).mono ?_
        rintro e w2 ⟨rfl, hb2⟩
        rw [HT.out]
        go_wp2_with fail
        refine (length_any n _ hN).mono ?_
        rintro e w3 ⟨rfl, hb3⟩
        go_wp2
        go_ret3
        exact ⟨HR.out.symm, hb2.trans (hb3.mono hb2.size)⟩
  · rw [decide_eq_false hz, Bool.false_and, if_neg (by simp)] at HR
    have hz2 : ¬ (st (lenL n)).size = z := by rw [hLs]; exact hz
    have hzi : ¬ ((st (lenL n)).size : Int) = (z : Int) := by omega
    have hzb : (((st (lenL n)).size : Int) != (z : Int)) = true := by rw [bne_iff_ne]; exact hzi
    have hzs : (st (lenL n)).size ≤ 2 := by rw [hLs, hLL]; split <;> omega
    rcases hZ with rfl | rfl
    all_goals
      clear hLL hLs hz hU
      go_enter Tryd.func47, Tryd.ntmps47
      go_wp2_with fail
      rw [HUe.out]
      refine (take_any U _ hUs).mono ?_
      rintro e w2 ⟨rfl, hb2⟩
      rw [HT.out]
      go_wp2_with fail
      refine (length_any n _ hN).mono ?_
      rintro e w3 ⟨rfl, hb3⟩
      go_wp2
      go_ret3
      exact ⟨HR.out.symm, hb2.trans (hb3.mono hb2.size)⟩
end Go.Proofs.YtnnimkailajgaaaDoor.Bs
