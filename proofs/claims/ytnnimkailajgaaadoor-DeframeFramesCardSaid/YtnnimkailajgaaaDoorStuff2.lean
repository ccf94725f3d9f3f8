/- The walks of advanced.Stuff, Unstuff, and of the reference's Stuff and Unstuff. -/
import Derived.Test.YtnnimkailajgaaaDoorStuff
import Derived.Deep.CutRange
import Derived.WalkMore
namespace Go.Proofs.YtnnimkailajgaaaDoor
open Go.RowKit
set_option linter.unusedVariables false
set_option linter.unusedSimpArgs false

theorem bl_getD (s : ByteArray) (j : Nat) (h : j < s.size) : (bl s).getD j 0 = s[j].toNat := by
  simp only [List.getD, bl, List.getElem?_map]
  rw [List.getElem?_eq_getElem (by simpa using h)]
  rfl
theorem bl_drop (s : ByteArray) (k : Nat) (h : k < s.size) : (bl s).drop k = s[k].toNat :: (bl s).drop (k + 1) := by
  have h1 : k < (bl s).length := by rw [bl_length]; exact h
  rw [List.drop_eq_getElem_cons h1]
  congr 1
  have := bl_getD s k h
  simp only [List.getD, List.getElem?_eq_getElem h1, Option.getD_some] at this
  exact this

/-- What both Unstuffs answer. -/
def unR (s : ByteArray) : Ending := match unst (bl s) with
  | none => .returned (.tuple #[.string ⟨#[]⟩, .bool false])
  | some m => .returned (.tuple #[.string (st m), .bool true])
theorem unR_none {s : ByteArray} (h : unst (bl s) = none) : unR s = .returned (.tuple #[.string ⟨#[]⟩, .bool false]) := by unfold unR; rw [h]
theorem unR_some {s : ByteArray} {m : List Nat} (h : unst (bl s) = some m) : unR s = .returned (.tuple #[.string (st m), .bool true]) := by unfold unR; rw [h]
theorem tok_u8 (d : Nat) (hd : d < 256) (k : Nat) : (((d : Int) == (k : Int)) = decide (d = k)) := by rw [Bool.eq_iff_iff, beq_iff_eq, decide_eq_true_iff]; omega

/-- Unstuff, under way. -/
structure UnAt (s : ByteArray) (w : World) (k : Nat) (u : List Nat) (v : Value) (wr : World) : Prop where
  row : wr.ownsRow w.heap.size 5 1 v u.length (u8s u)
  below : Below w.heap.size w wr
  under : unst (bl s) = (unst ((bl s).drop k)).map (u ++ ·)
  bytes : Bytes u
  len : u.length ≤ k
theorem UnAt.step {s : ByteArray} {w : World} {k k' : Nat} {u : List Nat} {v v' : Value} {wr w1 : World} {x : Nat} {o : Obj} (h : UnAt s w k u v wr) (hk : k < k') (hx : x < 256) (hr : unst ((bl s).drop k) = (unst ((bl s).drop k')).map (x :: ·))
    (hown : w1.ownsRow w.heap.size 5 1 v' (u.length + 1) (u8s u ++ [.int .u8 (x : Int)])) (hgrow : (wr.alloc o).grownBy w1 v.ownBlock) : UnAt s w k' (u ++ [x]) v' w1 :=
  ⟨by rw [List.length_append, u8s_append]; exact hown, h.below.trans (own8_grown h.row h.below.size hgrow), under_some h.under hr, bytes_append h.bytes (bytes_cons hx bytes_nil), by have := h.len; simp; omega⟩

set_option maxHeartbeats 4000000 in
theorem unstuff_any (s : ByteArray) (w : World) (hs : s.size ≤ 100000) :
    Calls Tryd.prog 40 #[.string s] w fun e w' => e = unR s ∧ Below w.heap.size w w' := by
  obtain ⟨i0, hi, hz0, hz1, hz2⟩ := info_parts u8row
  go_enter Tryd.func40, Tryd.ntmps40
  go_wp2
  go_step3
  go_wp2
  go_step3
  go_wp2
  go_loopw [4, 5, 6] (fun v ok i wr => ∃ (k : Nat) (u : List Nat), k ≤ s.size ∧ ok = .bool true ∧ i = .int .i64 (k : Int) ∧ UnAt s w k u v wr) (fun _ _ i _ => s.size - (intOf i).toNat)
  case atStart => exact ⟨0, [], by omega, rfl, rfl, World.ownsRow_nil _ _ _ _, Below.refl _ _, by simp, bytes_nil, by simp⟩
  case round =>
    obtain ⟨k, u, hk, rfl, rfl, hU⟩ := hrel
    by_cases hks : k < s.size
    · have hkk : (k : Int) < (s.size : Int) := by omega
      have hd := bl_drop s k hks
      have hx := s[k].toNat_lt
      have hrow := hU.row
      have hlen := hU.len
      have hsz := hU.below.size
      by_cases h1 : s[k].toNat = 126
      · have hn := under_none hU.under (by rw [hd, h1]; exact unst_flag _)
        have HR := hide (unR_none hn)
        have hv := congrArg (Nat.cast (R := Int)) h1
        have HB := hide hU.below
        clear hd h1 hn hrow hlen hsz hU
        go_wp2
        try rw [Exit.noGoto_ret]
        go_ret2
        exact ⟨HR.out.symm, HB.out⟩
      by_cases h2 : s[k].toNat = 125
      · by_cases hk1 : k + 1 < s.size
        · have hd1 := bl_drop s (k + 1) hk1
          have hx1 := s[k + 1].toNat_lt
          have hv := congrArg (Nat.cast (R := Int)) h2
          have hk1' : (k : Int) + 1 < (s.size : Int) := by omega
          obtain ⟨y1, y2, y3, y4⟩ := xor32 s[k + 1].toNat hx1
          by_cases h3 : s[k + 1].toNat = 94 ∨ s[k + 1].toNat = 93
          · have hr : unst ((bl s).drop k) = (unst ((bl s).drop (k + 2))).map ((s[k + 1].toNat ^^^ 32) :: ·) := by
              rw [hd, h2, hd1]; exact unst_esc h3 _
            have y5 : s[k + 1].toNat ^^^ 32 = 126 ∨ s[k + 1].toNat ^^^ 32 = 125 := by rw [y3, y4]; exact h3
            generalize hy : s[k + 1].toNat ^^^ 32 = y at *
            have HR := hide hr
            have HU := hide hU
            clear hr hU hd hd1 h1 h2 h3 y3 y4 hy
            rcases y5 with rfl | rfl
            case' inl => replace y1 : bits .xor .u8 ((s[k + 1].toNat : Nat) : Int) 32 = 126 := y1
            case' inr => replace y1 : bits .xor .u8 ((s[k + 1].toNat : Nat) : Int) 32 = 125 := y1
            case inl =>
              go_wp2_with (at_builtin; refine wpList_append_own _ rfl (.tmp 46) (.tmp 48) 42 rfl w.heap.size 5 i0 (.int .u8 0) 1 1 Tryd.underlying42 hi hz0 hz1 hz2 rfl (by decide) _ _ _ rfl (hrow.alloc _) ⟨wr.heap.size, 0, none⟩ 1 1 [.int .u8 126] rfl rfl (cell_one_new _ _ _) (by simp [Value.oneCell']) (by unfold maxLen; omega) (by omega) (by simp; omega) ?_; intro v' w1 hown' hgrow _)
              go_roundw
              case rel => exact ⟨k + 2, u ++ [126], by omega, rfl, by go_num, HU.out.step (x := 126) (by omega) (by omega) HR.out hown' hgrow⟩
              case measure => simp [intOf]; omega
            case inr =>
              go_wp2_with (at_builtin; refine wpList_append_own _ rfl (.tmp 46) (.tmp 48) 42 rfl w.heap.size 5 i0 (.int .u8 0) 1 1 Tryd.underlying42 hi hz0 hz1 hz2 rfl (by decide) _ _ _ rfl (hrow.alloc _) ⟨wr.heap.size, 0, none⟩ 1 1 [.int .u8 125] rfl rfl (cell_one_new _ _ _) (by simp [Value.oneCell']) (by unfold maxLen; omega) (by omega) (by simp; omega) ?_; intro v' w1 hown' hgrow _)
              go_roundw
              case rel => exact ⟨k + 2, u ++ [125], by omega, rfl, by go_num, HU.out.step (x := 125) (by omega) (by omega) HR.out hown' hgrow⟩
              case measure => simp [intOf]; omega
          · have hn := under_none hU.under (by rw [hd, h2, hd1]; exact unst_odd h3 _)
            have HR := hide (unR_none hn)
            have HB := hide hU.below
            have t1 : (((s[k + 1].toNat ^^^ 32 : Nat) : Int) == 126) = false := by rw [beq_eq_false_iff_ne]; intro h; exact h3 (.inl (y3.1 (by omega)))
            have t2 : (((s[k + 1].toNat ^^^ 32 : Nat) : Int) == 125) = false := by rw [beq_eq_false_iff_ne]; intro h; exact h3 (.inr (y4.1 (by omega)))
            generalize s[k + 1].toNat ^^^ 32 = y at *
            clear hd hd1 h1 h2 h3 hn hrow hlen hsz hU y3 y4
            go_wp2
            try rw [Exit.noGoto_ret]
            go_ret2
            exact ⟨HR.out.symm, HB.out⟩
        · have hde : (bl s).drop (k + 1) = [] := List.drop_of_length_le (by rw [bl_length]; omega)
          have hn := under_none hU.under (by rw [hd, h2, hde]; exact unst_end)
          have HR := hide (unR_none hn)
          have HB := hide hU.below
          have hv := congrArg (Nat.cast (R := Int)) h2
          have hk1' : ¬ ((k : Int) + 1 < (s.size : Int)) := by omega
          clear hd hde h1 h2 hn hrow hlen hsz hU
          go_wp2
          try rw [Exit.noGoto_ret]
          go_ret2
          exact ⟨HR.out.symm, HB.out⟩
      · have hr : unst ((bl s).drop k) = (unst ((bl s).drop (k + 1))).map (s[k].toNat :: ·) := by rw [hd]; exact unst_plain (by omega) _
        have t1 : ((s[k].toNat : Int) == 125) = false := by rw [beq_eq_false_iff_ne]; omega
        have t2 : ((s[k].toNat : Int) != 126) = true := by rw [bne_iff_ne]; omega
        have t3 : ((s[k].toNat : Int) != 125) = true := by rw [bne_iff_ne]; omega
        have HR := hide hr
        have HU := hide hU
        clear hr hU hd h1 h2
        go_wp2_with (at_builtin; refine wpList_append_own _ rfl (.tmp 46) (.tmp 48) 42 rfl w.heap.size 5 i0 (.int .u8 0) 1 1 Tryd.underlying42 hi hz0 hz1 hz2 rfl (by decide) _ _ _ rfl (hrow.alloc _) ⟨wr.heap.size, 0, none⟩ 1 1 [.int .u8 ((s[k].toNat : Nat) : Int)] rfl rfl (cell_one_new _ _ _) (by simp [Value.oneCell']) (by unfold maxLen; omega) (by omega) (by simp; omega) ?_; intro v' w1 hown' hgrow _)
        go_roundw
        case rel => exact ⟨k + 1, u ++ [s[k].toNat], by omega, rfl, by go_num, HU.out.step (by omega) hx HR.out hown' hgrow⟩
        case measure => simp [intOf]; omega
    · obtain rfl : k = s.size := by omega
      have hn := hU.under
      rw [List.drop_of_length_le (by rw [bl_length]; exact Nat.le_refl _)] at hn
      have HR := hide (unR_some (under_end hn))
      have hrow := hU.row
      obtain ⟨a, c, rfl⟩ := own8_form hrow
      have hcv := run_own hrow hU.bytes
      have HB := hide hU.below
      clear hn hrow hU
      go_wp2
      try rw [Exit.noGoto_ret]
      go_ret2
      exact ⟨HR.out.symm, HB.out⟩

theorem st_one (s : ByteArray) (k : Nat) (h : k < s.size) : s.extract k (k + 1) = st [s[k].toNat] := by
  apply bl_inj
  rw [bl_extract, bl_drop s k h, bl_st (bytes_cons s[k].toNat_lt bytes_nil)]
  simp
theorem st_snoc (u : List Nat) (s : ByteArray) (k : Nat) (h : k < s.size) : st u ++ s.extract k (k + 1) = st (u ++ [s[k].toNat]) := by rw [st_one s k h, st_append]
theorem cat_ok (u : List Nat) (n m : Nat) (h : u.length ≤ n) (hn : n ≤ 1000000) (hm : m ≤ 100) : ¬ 9223372036854775807 < (st u).size + m := by rw [st_size]; omega

/-- Unstuff of the reference, under way. -/
structure RunAt (s : ByteArray) (k : Nat) (u : List Nat) : Prop where
  under : unst (bl s) = (unst ((bl s).drop k)).map (u ++ ·)
  len : u.length ≤ k
theorem RunAt.step {s : ByteArray} {k k' : Nat} {u : List Nat} {x : Nat} (h : RunAt s k u) (hk : k < k') (hr : unst ((bl s).drop k) = (unst ((bl s).drop k')).map (x :: ·)) : RunAt s k' (u ++ [x]) :=
  ⟨under_some h.under hr, by have := h.len; simp; omega⟩

end Go.Proofs.YtnnimkailajgaaaDoor
