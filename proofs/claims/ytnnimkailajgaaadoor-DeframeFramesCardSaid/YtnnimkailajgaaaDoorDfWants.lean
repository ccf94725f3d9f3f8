/- How many bytes a body wants more: the walk. -/
import Derived.Test.YtnnimkailajgaaaDoorDfWalk
namespace Go.Proofs.YtnnimkailajgaaaDoor
open Go.RowKit
set_option linter.unusedVariables false
set_option linter.unusedSimpArgs false

theorem run_st_off (b off n cap : Nat) (l : List Nat) (W : World) (hn : l.length = n) (hc : ∀ i, i < n → W.cell? ⟨b, off + i, none⟩ = some (.int .u8 (l.getD i 0 : Nat))) :
    (convert 42 9 (.slice (some ⟨b, off, none⟩) n cap)).run Tryd.prog W = .ok (.string (st l)) W := by
  rw [run_convert_bytes_arg W 42 5 Tryd.underlying42 Tryd.underlying5 b off n cap (l.map fun (x : Nat) => (x : Int)) (by simp [hn]) (fun i hi => ?_) 9 Tryd.underlying9]
  · congr 2
    apply ByteArray.ext
    simp [strOfNums, st]
  · rw [hc i hi]
    have : i < l.length := by omega
    simp [this]
theorem own_cells {w : World} {B g n cap : Nat} {l : List Nat} (h : w.ownsRow B 5 1 (.slice (some ⟨g, 0, none⟩) n cap) n (u8s l)) (j : Nat) (hj : j < l.length) : w.cell? ⟨g, j, none⟩ = some (.int .u8 (l.getD j 0 : Nat)) := by
  have hn : n = l.length := by have := h.1; rw [u8s_length] at this; omega
  rw [h.cellAt j (by omega)]
  simp [u8s, List.getD, hj]
theorem own_some {w : World} {B n : Nat} {v : Value} {l : List Nat} (h : w.ownsRow B 5 1 v n (u8s l)) (hl : 0 < l.length) : ∃ g cap, v = .slice (some ⟨g, 0, none⟩) n cap ∧ n ≤ cap ∧ B ≤ g ∧ g < w.heap.size := by
  have hn : n = l.length := by have := h.1; rw [u8s_length] at this; omega
  rcases h.2 with ⟨_, h0⟩ | ⟨g, cap, cur, e1, e2, e3, e4, _⟩
  · omega
  · exact ⟨g, cap, e1, e4, e2, (Array.getElem?_eq_some_iff.1 e3).1⟩

set_option maxRecDepth 100000 in
set_option maxHeartbeats 4000000 in
theorem wants_any (adv ini : Bool) (n1 : Int) (B gd : Nat) (x : DS) (w : World) (h : DefAt adv ini n1 B gd x w) (hl : x.got.length ≤ 300) (hby : Bytes x.got) :
    Calls Tryd.prog 19 #[.pointer (some ⟨gd, 0, none⟩)] w fun e w' => e = .returned (.int .i64 (wantsI n1 x.got)) ∧ Below w.heap.size w w' := by
  obtain ⟨v, hblk, hown⟩ := h.row
  obtain ⟨c0, c1, c2, c3, c4, c5, c6, _⟩ := cells7 hblk
  have hr := room_le n1
  obtain ⟨x9, l, x8⟩ := x
  dsimp only at *
  by_cases hz : l.length = 0
  · have hW : wantsI n1 l = 1 := by unfold wantsI; rw [if_neg (by omega), if_pos (by omega)]
    rw [hW]
    obtain ⟨a, c, rfl⟩ := own8_form hown
    rw [hz] at c3
    clear hW hown hblk
    go_enter Tryd.func19, Tryd.ntmps19
    go_wp2
    go_ret
    exact ⟨rfl, Below.refl _ _⟩
  obtain ⟨g, cap, rfl, hcap, _, hgl⟩ := own_some hown (by omega)
  have q0 := own_cells hown 0 (by omega)
  have hb0 : l.getD 0 0 < 256 := bytes_getD hby 0
  have hand := u8_bit0 (l.getD 0 0) hb0
  have hpos : (0 : Int) < (l.length : Int) := by omega
  have hposn : 0 < l.length := by omega
  by_cases hev : l.getD 0 0 % 2 = 0
  · have hW : wantsI n1 l = -1 := by unfold wantsI; rw [if_pos ⟨by omega, hev⟩]
    rw [hW]
    rw [hev] at hand
    clear hW hown hblk hev
    generalize l.getD 0 0 = a0 at *
    go_enter Tryd.func19, Tryd.ntmps19
    go_wp2
    go_ret
    exact ⟨rfl, Below.refl _ _⟩
  have hW0 : wantsI n1 l = if l.length ≤ 2 then 1 else if tkOk (st (l.drop 2)) = false then 1 else if room n1 < (tkN (st (l.drop 2)) : Int) ∨ (lenL (tkN (st (l.drop 2)))).length ≠ tkZ (st (l.drop 2)) then -1
      else 2 + (tkZ (st (l.drop 2)) : Int) + (tkN (st (l.drop 2)) : Int) + 1 - (l.length : Int) := by unfold wantsI; rw [if_neg (fun hh => hev hh.2)]
  rw [show l.getD 0 0 % 2 = 1 by omega] at hand
  by_cases h2 : l.length ≤ 2
  · have hW : wantsI n1 l = 1 := by rw [hW0, if_pos h2]
    rw [hW]
    have h2' : (l.length : Int) ≤ 2 := by omega
    clear hW hW0 hown hblk hev
    generalize l.getD 0 0 = a0 at *
    go_enter Tryd.func19, Tryd.ntmps19
    go_wp2
    go_ret
    exact ⟨rfl, Below.refl _ _⟩
  rw [if_neg h2] at hW0
  have h2' : ¬ (l.length : Int) ≤ 2 := by omega
  have hcv := run_st_off g 2 (l.length - 2) (cap - 2) (l.drop 2) w (by rw [List.length_drop]) (fun i hi => by
    rw [own_cells hown (2 + i) (by omega)]
    simp only [List.getD, List.getElem?_drop])
  have hUs : (st (l.drop 2)).size ≤ 100000 := by rw [st_size, List.length_drop]; omega
  generalize st (l.drop 2) = U at *
  obtain ⟨RES, hRES⟩ : ∃ RES, wantsI n1 l = RES := ⟨_, rfl⟩
  rw [hRES] at hW0
  rw [hRES]
  have HW := hide hW0
  clear hRES
  have hN := tkN_le U
  have hZ : tkZ U = 1 ∨ tkZ U = 2 := by unfold tkZ; split <;> simp
  have hlt := h.lt
  clear hown hev hW0 h
  generalize l.getD 0 0 = a0 at *
  go_enter Tryd.func19, Tryd.ntmps19
  go_wp2_with fail
  refine (take_any U _ hUs).mono ?_
  rintro e w2 ⟨rfl, hb2⟩
  have hblk2 := (hb2.block gd hlt).trans hblk
  clear c0 c1 c2 c3 c4 c5 c6 q0 hcv hblk
  obtain ⟨c0, c1, c2, c3, c4, c5, c6, _⟩ := cells7 hblk2
  by_cases hk : tkOk U = false
  · have hT : tkR U = .returned (.tuple #[.int .i64 0, .int .i64 0, .int .i64 20]) := by unfold tkR; rw [hk]; rfl
    rw [hT]
    rw [if_pos hk] at HW
    clear hT
    go_wp2
    go_ret
    exact ⟨ret_int HW.out.symm, hb2⟩
  have hk' : tkOk U = true := by simpa using hk
  have hT : tkR U = .returned (.tuple #[.int .i64 (tkN U : Int), .int .i64 (tkZ U : Int), .int .i64 0]) := by unfold tkR; rw [hk']; rfl
  rw [hT]
  rw [if_neg hk] at HW
  clear hT hk hk' hblk2
  have hLs : (st (lenL (tkN U))).size = (lenL (tkN U)).length := st_size _
  have hLL : (lenL (tkN U)).length = 1 ∨ (lenL (tkN U)).length = 2 := by rw [lenL_len]; split <;> simp
  generalize tkN U = n at *
  generalize tkZ U = z at *
  go_wp2_with fail
  refine (Bs.broom_any _ _).mono ?_
  rintro e w3 ⟨rfl, rfl⟩
  by_cases hn : room n1 < (n : Int)
  · rw [if_pos (.inl hn)] at HW
    go_wp2
    go_ret
    exact ⟨ret_int HW.out.symm, hb2⟩
  go_wp2_with fail
  refine (length_any n _ hN).mono ?_
  rintro e w4 ⟨rfl, hb4⟩
  have d3 := (hb4.cell (p := ⟨gd, 3, none⟩) (Nat.lt_of_lt_of_le hlt hb2.size)).trans c3
  clear c0 c1 c2 c3 c4 c5 c6
  by_cases hz9 : (lenL n).length = z
  · rw [if_neg (fun hh => hh.elim (fun h9 => by omega) (fun h9 => h9 hz9))] at HW
    have hsz : (st (lenL n)).size = z := by rw [hLs, hz9]
    clear hLs hz9 hLL
    rcases hZ with rfl | rfl
    all_goals
      go_wp2
      go_ret
      exact ⟨ret_int (by have := HW.out; omega), hb2.trans (hb4.mono hb2.size)⟩
  · rw [if_pos (.inr hz9)] at HW
    have hsz : ¬ ((st (lenL n)).size : Int) = (z : Int) := by rw [hLs]; omega
    have hszb : (((st (lenL n)).size : Int) != (z : Int)) = true := by rw [bne_iff_ne]; exact hsz
    have hs2 : (st (lenL n)).size ≤ 2 := by omega
    clear hLs hz9 hLL
    rcases hZ with rfl | rfl
    all_goals
      go_wp2
      all_goals first
        | (rename_i hc; exact absurd (hc.2.symm.trans hszb) (by decide))
        | (go_ret; exact ⟨ret_int HW.out.symm, hb2.trans (hb4.mono hb2.size)⟩)
end Go.Proofs.YtnnimkailajgaaaDoor
