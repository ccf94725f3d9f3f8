/- basic.Encode: the walk. -/
import Derived.Test.YtnnimkailajgaaaDoorBasMay
import Derived.LoopN
import Derived.Lib.AppendStr
namespace Go.Proofs.YtnnimkailajgaaaDoor.Bs
open Go.RowKit
set_option linter.unusedVariables false
set_option linter.unusedSimpArgs false

theorem clo1_any (g : Nat) (A : Nat) (w : World) (hc : w.cell? ⟨g, 0, none⟩ = some (.int .u8 (A : Int))) :
    Calls Tryd.prog 32 #[.pointer (some ⟨g, 0, none⟩)] w fun e w' => e = .returned (.bool (decide (A = 0 ∨ A = 249))) ∧ w = w' := by
  by_cases h0 : A = 0
  · rw [decide_eq_true (.inl h0)]
    subst h0
    go_enter Tryd.func32, Tryd.ntmps32
    go_wp2
    go_ret
    exact ⟨rfl, rfl⟩
  · by_cases h1 : A = 249
    · rw [decide_eq_true (.inr h1)]
      subst h1
      go_enter Tryd.func32, Tryd.ntmps32
      go_wp2
      go_ret
      exact ⟨rfl, rfl⟩
    · rw [decide_eq_false (by omega)]
      have t1 : ((A : Int) == 249) = false := by rw [beq_eq_false_iff_ne]; omega
      have t0 : ((A : Int) == 0) = false := by rw [beq_eq_false_iff_ne]; omega
      go_enter Tryd.func32, Tryd.ntmps32
      go_wp2
      go_ret
      refine ⟨?_, rfl⟩
      first | rfl | (simp only [Array.getD]; simp; omega)
theorem clo2_any (g : Nat) (E : Nat) (w : World) (hE : E = 0 ∨ E = 2) (hc : w.cell? ⟨g, 0, none⟩ = some (.int .i64 (E : Int))) :
    Calls Tryd.prog 33 #[.pointer (some ⟨g, 0, none⟩)] w fun e w' => e = .returned (.bool ((E : Int) != 0)) ∧ w = w' := by
  rcases hE with rfl | rfl
  all_goals
    go_enter Tryd.func33, Tryd.ntmps33
    go_wp2
    go_ret
    exact ⟨rfl, rfl⟩
theorem clo3_any (g d k s r : Nat) (c p : Bool) (i : ByteArray) (w : World) (h1 : k ≤ 255) (hF : FrAt w g d c k p s r i) :
    Calls Tryd.prog 34 #[.pointer (some ⟨g, 0, none⟩)] w fun e w' => e = .returned (.bool (!carF c k i)) ∧ Below w.heap.size w w' := by
  obtain ⟨_, c0, c1, c2, c3, c4, c5, c6⟩ := hF
  go_enter Tryd.func34, Tryd.ntmps34
  go_wp2_with fail
  refine (carries_any d k s r c p i _ h1).mono ?_
  rintro e w' ⟨rfl, hb⟩
  go_wp2
  go_ret
  exact ⟨rfl, hb⟩

/-- Where Encode stands: its frame, the address, the error, lie in blocks of its own. -/
structure EncAt (w : World) (d : Nat) (c : Bool) (k : Nat) (p : Bool) (s r : Nat) (i : ByteArray) (A E : Nat) (W : World) : Prop where
  fr : FrAt W w.heap.size d c k p s r i
  below : Below w.heap.size w W
  lt : w.heap.size + 1 + 1 < W.heap.size
  ca : W.cell? ⟨w.heap.size + 1, 0, none⟩ = some (.int .u8 (A : Int))
  ce : W.cell? ⟨w.heap.size + 1 + 1, 0, none⟩ = some (.int .i64 (E : Int))
theorem EncAt.step {w W W' : World} {d k s r A E : Nat} {c p : Bool} {i : ByteArray} (h : EncAt w d c k p s r i A E W) (hb : Below W.heap.size W W') : EncAt w d c k p s r i A E W' :=
  ⟨h.fr.below hb, below_step h.below (Nat.le_refl _) hb, Nat.lt_of_lt_of_le h.lt hb.size, (World.cell?_of_block (a := ⟨w.heap.size + 1, 0, none⟩) (hb.block _ (Nat.lt_trans (Nat.lt_succ_self _) h.lt))).trans h.ca, (World.cell?_of_block (a := ⟨w.heap.size + 1 + 1, 0, none⟩) (hb.block _ h.lt)).trans h.ce⟩
theorem EncAt.drewN {w W : World} {d k s r A E : Nat} {c p : Bool} {i : ByteArray} (h : EncAt w d c k p s r i A E W) (n : Nat) : EncAt w d c k p s r i A E (W.drewN n) := ⟨h.fr.drewN n, below_drewN h.below n, h.lt, h.ca, h.ce⟩
theorem idx3_0 (x y z : Value) (W : World) : (Instr.index 60 (.agg #[x, y, z]) (.int .i64 0)).run Tryd.prog W = .ok x W := by kernel_rfl
theorem idx3_1 (x y z : Value) (W : World) : (Instr.index 60 (.agg #[x, y, z]) (.int .i64 1)).run Tryd.prog W = .ok y W := by kernel_rfl
theorem idx3_2 (x y z : Value) (W : World) : (Instr.index 60 (.agg #[x, y, z]) (.int .i64 2)).run Tryd.prog W = .ok z W := by kernel_rfl
theorem encAt_new (w : World) (d : Nat) (c : Bool) (k : Nat) (p : Bool) (s r : Nat) (i : ByteArray) (A E : Nat) :
    EncAt w d c k p s r i A E (((w.alloc (.cells #[.int .u8 (d : Int), .bool c, .int .u8 (k : Int), .bool p, .int .u8 (s : Int), .int .u8 (r : Int), .string i] 30)).alloc (.cells #[.int .u8 (A : Int)] 5)).alloc (.cells #[.int .i64 (E : Int)] 45)) := by
  have F0 := frAt_new w d c k p s r i 30
  refine ⟨(F0.alloc _).alloc _, (((Below.refl w.heap.size w).alloc (Nat.le_refl _) _).alloc (by simp) _).alloc (by simp only [World.size_alloc]; omega) _, by simp, ?_, ?_⟩
  · have h1 := World.cell?_alloc_new (w.alloc (.cells #[.int .u8 (d : Int), .bool c, .int .u8 (k : Int), .bool p, .int .u8 (s : Int), .int .u8 (r : Int), .string i] 30)) #[.int .u8 (A : Int)] 5 0
    rw [World.size_alloc] at h1
    exact (World.cell?_of_block (a := ⟨w.heap.size + 1, 0, none⟩) (Below.heap_alloc _ _ _ (by simp only [World.size_alloc]; omega))).trans h1
  · have h1 := World.cell?_alloc_new ((w.alloc (.cells #[.int .u8 (d : Int), .bool c, .int .u8 (k : Int), .bool p, .int .u8 (s : Int), .int .u8 (r : Int), .string i] 30)).alloc (.cells #[.int .u8 (A : Int)] 5)) #[.int .i64 (E : Int)] 45 0
    rw [World.size_alloc, World.size_alloc] at h1
    exact h1
theorem strCells_u8s (s : ByteArray) : Lib.strCells s = u8s (bl s) := by
  unfold Lib.strCells u8s bl
  rw [List.map_map]
  rfl
theorem run_twoA (W : World) (x y : Nat) : (convert 42 9 (.slice (some ⟨W.heap.size, 0, none⟩) 2 2)).run Tryd.prog (W.alloc (.cells #[.int .u8 (x : Int), .int .u8 (y : Int)] 5)) = .ok (.string (st [x, y])) (W.alloc (.cells #[.int .u8 (x : Int), .int .u8 (y : Int)] 5)) := by
  refine run_st W.heap.size 2 2 [x, y] _ rfl fun i hi => ?_
  rw [Nat.zero_add]
  refine (World.cell?_alloc_new W #[.int .u8 (x : Int), .int .u8 (y : Int)] 5 i).trans ?_
  rcases (show i = 0 ∨ i = 1 by omega) with rfl | rfl <;> rfl
theorem run_twoB (W w3 : World) (x y : Nat) (h : W.heap[w3.heap.size]? = (w3.alloc (.cells #[.int .u8 (x : Int), .int .u8 (y : Int)] 5)).heap[w3.heap.size]?) : (convert 42 9 (.slice (some ⟨w3.heap.size, 0, none⟩) 2 2)).run Tryd.prog W = .ok (.string (st [x, y])) W := by
  refine run_st w3.heap.size 2 2 [x, y] _ rfl fun i hi => ?_
  rw [Nat.zero_add]
  refine ((World.cell?_of_block (a := ⟨w3.heap.size, i, none⟩) h).trans (World.cell?_alloc_new w3 #[.int .u8 (x : Int), .int .u8 (y : Int)] 5 i)).trans ?_
  rcases (show i = 0 ∨ i = 1 by omega) with rfl | rfl <;> rfl
theorem eaA_zero {d : Nat} {v : Bool} (h : eaA d v = 0) : 63 < d := by
  unfold eaA at h
  by_cases hd : 63 < d
  · exact hd
  · rw [if_neg hd] at h; omega
theorem eaA_pos {d : Nat} {v : Bool} (h : ¬ eaA d v = 0) : d ≤ 63 := by
  unfold eaA at h
  by_cases hd : 63 < d
  · rw [if_pos hd] at h; simp at h
  · omega
theorem putE_or (k : Nat) (s r : Nat) : putE k s r = 0 ∨ putE k s r = 2 := by unfold putE; split <;> simp

set_option maxRecDepth 100000 in
set_option maxHeartbeats 4000000 in
theorem bencode_any (d k s r : Nat) (c p : Bool) (i : ByteArray) (b : Bool) (n1 : Int) (w : World) (hh : Octs w) (hf : Half w) (h0 : d ≤ 255) (h1 : k ≤ 255) (h2 : s ≤ 255) (h3 : r ≤ 255) (hi : i.size ≤ maxLen) :
    Calls Tryd.prog 17 #[.agg #[.int .u8 (d : Int), .bool c, .int .u8 (k : Int), .bool p, .int .u8 (s : Int), .int .u8 (r : Int), .string i], .bool b, .int .i64 n1] w fun e w' => e = encR4 d c k p s r i b n1 ∧ Below w.heap.size w w' := by
  unfold maxLen at hi
  have ha := eaA_le d (c == b)
  obtain ⟨RES, hRES⟩ : ∃ RES, encR4 d c k p s r i b n1 = RES := ⟨_, rfl⟩
  have q0 : eaA d (c == b) = 0 ∨ eaA d (c == b) = 249 → RES = .returned (.tuple #[.string ⟨#[]⟩, .int .i64 2]) := by
    intro h
    rw [← hRES]
    unfold encR4
    rcases h with h | h
    · rw [if_pos (.inl (by rw [mayOk_eq, decide_eq_false (by have := eaA_zero h; omega)]; simp))]
    · rw [if_pos (.inr h)]
  have q1 : putOk k s r = false → RES = .returned (.tuple #[.string ⟨#[]⟩, .int .i64 2]) := by
    intro h
    rw [← hRES]
    unfold encR4
    rw [if_pos (.inl (by rw [mayOk_eq, h]; simp))]
  have q2 : carF c k i = false → RES = .returned (.tuple #[.string ⟨#[]⟩, .int .i64 2]) := by
    intro h
    rw [← hRES]
    unfold encR4
    rw [if_pos (.inl (by rw [mayOk_eq, h]; simp))]
  have q3 : ¬ (eaA d (c == b) = 0 ∨ eaA d (c == b) = 249) → putOk k s r = true → carF c k i = true → RES = if room n1 < (i.size : Int) then .returned (.tuple #[.string ⟨#[]⟩, .int .i64 3])
      else .returned (.tuple #[.string (st [249] ++ bodyF d c k p s r i b ++ st [249]), .int .i64 0]) := by
    intro h1 h2 h3
    rw [← hRES]
    unfold encR4
    have hd : d ≤ 63 := eaA_pos (v := c == b) (by omega)
    rw [if_neg (by rw [mayOk_eq, h2, h3, decide_eq_true hd]; simp; omega)]
  rw [hRES]
  clear hRES
  have F0 := frAt_new w d c k p s r i 30
  have hput := fput_any k p s r
  obtain ⟨E, hE⟩ : ∃ E, putE k s r = E := ⟨_, rfl⟩
  obtain ⟨V, hV⟩ : ∃ V, putV k p s r = V := ⟨_, rfl⟩
  have hE2 := putE_or k s r
  unfold putR at hput
  rw [hE, hV] at hput
  rw [hE] at hE2
  have HP := hide hput
  have HE := hide hE
  have HV := hide hV
  clear hput hE hV
  obtain ⟨A, hA⟩ : ∃ A, eaA d (c == b) = A := ⟨_, rfl⟩
  rw [hA] at ha q0 q3
  have Q0 := hide q0
  have Q1 := hide q1
  have Q2 := hide q2
  have Q3 := hide q3
  clear q0 q1 q2 q3
  have HA := hide hA
  clear hA
  have HO := hide (fun W (hb : Below w.heap.size w W) => hh.below hb)
  have HF := hide (fun W (hb : Below w.heap.size w W) => hf.below hb)
  clear hh hf
  have B0 := (Below.refl w.heap.size w).alloc (Nat.le_refl _) (.cells #[.int .u8 (d : Int), .bool c, .int .u8 (k : Int), .bool p, .int .u8 (s : Int), .int .u8 (r : Int), .string i] 30)
  go_enter Tryd.func17, Tryd.ntmps17
  go_wp2_with fail
  refine (address_any d (c == b) _ h0).mono ?_
  rintro e w2 ⟨rfl, rfl⟩
  rw [HA.out]
  go_wp2_with fail
  refine (HP.out _ (HO.out _ (B0.alloc (by simp) _)) h1 h2 h3).mono ?_
  rintro e w2 ⟨rfl, rfl⟩
  go_wp2
  have D0 := encAt_new w d c k p s r i A E
  refine wp_loop_rounds 4 ?_
  rw [rounds_succ]
  generalize (((w.alloc (.cells #[.int .u8 (d : Int), .bool c, .int .u8 (k : Int), .bool p, .int .u8 (s : Int), .int .u8 (r : Int), .string i] 30)).alloc (.cells #[.int .u8 (A : Int)] 5)).alloc (.cells #[.int .i64 (E : Int)] 45)) = W0 at *
  clear B0 F0
  have i0 := idx3_0 (.func (.func 32) #[] #[.pointer (some ⟨w.heap.size + 1, 0, none⟩)]) (.func (.func 33) #[] #[.pointer (some ⟨w.heap.size + 1 + 1, 0, none⟩)]) (.func (.func 34) #[] #[.pointer (some ⟨w.heap.size, 0, none⟩)])
  have i1 := idx3_1 (.func (.func 32) #[] #[.pointer (some ⟨w.heap.size + 1, 0, none⟩)]) (.func (.func 33) #[] #[.pointer (some ⟨w.heap.size + 1 + 1, 0, none⟩)]) (.func (.func 34) #[] #[.pointer (some ⟨w.heap.size, 0, none⟩)])
  have i2 := idx3_2 (.func (.func 32) #[] #[.pointer (some ⟨w.heap.size + 1, 0, none⟩)]) (.func (.func 33) #[] #[.pointer (some ⟨w.heap.size + 1 + 1, 0, none⟩)]) (.func (.func 34) #[] #[.pointer (some ⟨w.heap.size, 0, none⟩)])
  go_wp2_with fail
  refine (clo1_any _ A _ D0.ca).mono ?_
  rintro e w3 ⟨rfl, rfl⟩
  by_cases hb1 : A = 0 ∨ A = 249
  · rw [decide_eq_true hb1]
    go_wp2
    go_ret2
    exact ⟨(Q0.out hb1).symm, D0.below⟩
  rw [decide_eq_false hb1]
  go_wp2
  rw [rounds_succ]
  go_wp2_with fail
  refine (clo2_any _ E _ hE2 D0.ce).mono ?_
  rintro e w3 ⟨rfl, rfl⟩
  by_cases hb2 : putOk k s r = false
  · have t2 : ((E : Int) != 0) = true := by rw [← HE.out]; unfold putE; rw [hb2]; rfl
    rw [t2]
    go_wp2
    go_ret2
    exact ⟨(Q1.out hb2).symm, D0.below⟩
  have hb2' : putOk k s r = true := by simpa using hb2
  have t2 : ((E : Int) != 0) = false := by rw [← HE.out]; unfold putE; rw [hb2']; rfl
  rw [t2]
  go_wp2
  rw [rounds_succ]
  go_wp2_with fail
  refine (clo3_any w.heap.size d k s r c p i _ h1 D0.fr).mono ?_
  rintro e w3 ⟨rfl, hb3⟩
  have D1 := D0.step hb3
  by_cases hc : carF c k i = false
  · rw [hc]
    go_wp2
    go_ret2
    exact ⟨(Q2.out hc).symm, D1.below⟩
  have hc' : carF c k i = true := by simpa using hc
  rw [hc']
  have HR := hide (Q3.out hb1 hb2' hc')
  have hVe : V = putN k p s r := by rw [← HV.out]; unfold putV; rw [hb2']; rfl
  have hV9 : V ≤ 255 := by rw [hVe]; exact putN_lt p hb2'
  have HVE := hide hVe
  clear Q0 Q1 Q2 Q3 hb1 hb2 hb2' hc hc' HP HE HV hVe t2 i0 i1 i2 hb3 D0
  go_wp2
  rw [rounds_succ]
  go_wp2_with fail
  have c6 := D1.fr.c6
  go_quiet ((go_at_call 22; exact Calls.quiet_of_same (same_of (broom_any _ _))))
  have D2 := D1.drewN nq
  generalize w3.drewN nq = w4 at *
  clear c6 D1
  by_cases hr : room n1 < (i.size : Int)
  · have HE := hide (show RES = .returned (.tuple #[.string ⟨#[]⟩, .int .i64 3]) by rw [HR.out, if_pos hr])
    go_wp2
    go_ret2
    exact ⟨HE.out.symm, D2.below⟩
  have hE : RES = .returned (.tuple #[.string (st [249] ++ bodyF d c k p s r i b ++ st [249]), .int .i64 0]) := by rw [HR.out, if_neg hr]
  have hi2 : i.size ≤ 128 := by unfold room at hr; omega
  have hLn : i.size ≤ 32767 := by omega
  obtain ⟨X, hX⟩ : ∃ X, st [A, V] ++ st (lenL i.size) = X := ⟨_, rfl⟩
  have hX2 : headF d c k p s r i b = X := by unfold headF; rw [HA.out, ← HVE.out, ← hX, st_append]
  unfold bodyF at hE
  rw [hX2] at hE
  have hXs : X.size ≤ 4 := by rw [← hX, ByteArray.size_append, st_size, st_size, lenL_len]; simp only [List.length_cons, List.length_nil]; split <;> omega
  have HRES := hide hE
  have HX := hide hX
  clear hE hX2 hX HR HVE
  go_upto_region 11 with (fail)
  go_cut [13] (fun s13 wx => s13 = .string X ∧ EncAt w d c k p s r i A E wx)
  case first =>
    have D3 : EncAt w d c k p s r i A E w4.drew := D2.drewN 1
    have hcat : ¬ 9223372036854775807 < (st [A, V]).size + (st (lenL i.size)).size := by rw [st_size, st_size, lenL_len]; simp only [List.length_cons, List.length_nil]; split <;> omega
    refine wp_region_held (S := EncAt w d c k p s r i A E) (by kernel_rfl) ?_
    change wpAnyH _ _ _ _ _ _ _ _ (World.drew _)
    generalize w4.drew = w5 at *
    have hcv := run_twoA w5 A V
    refine take_atH 0 50 D3 rfl rfl (by kernel_rfl) (by kernel_rfl) (by kernel_rfl) (fun _ _ _ h => h) rfl (fun wq hq => by obtain ⟨⟨_, q0, q1, q2, q3, q4, q5, q6⟩, _, _, qa, qe⟩ := hq; go_simp; first | done | with_reducible rfl) ?_
    simp only [Act.put, List.setIfInBounds_toArray, List.set_cons_zero, List.set_cons_succ]
    refine take_atH 1 51 D3 rfl rfl (by kernel_rfl) (by kernel_rfl) (by kernel_rfl) (fun _ _ _ h => h) rfl (fun wq hq => by go_simp; first | done | with_reducible rfl) ?_
    simp only [Act.put, List.setIfInBounds_toArray, List.set_cons_zero, List.set_cons_succ]
    refine take_atH 4 54 D3 rfl rfl (by kernel_rfl) (by kernel_rfl) (by kernel_rfl) (fun _ _ _ h => h) rfl (fun wq hq => by go_simp; first | done | with_reducible rfl) ?_
    simp only [Act.put, List.setIfInBounds_toArray, List.set_cons_zero, List.set_cons_succ]
    refine take_atH 5 55 D3 rfl rfl (by kernel_rfl) (by kernel_rfl) (by kernel_rfl) (fun _ _ _ h => h) rfl (fun wq hq => by obtain ⟨⟨_, q0, q1, q2, q3, q4, q5, q6⟩, _, _, qa, qe⟩ := hq; go_simp; first | done | with_reducible rfl) ?_
    simp only [Act.put, List.setIfInBounds_toArray, List.set_cons_zero, List.set_cons_succ]
    refine take_atH 6 56 D3 rfl rfl (by kernel_rfl) (by kernel_rfl) (by kernel_rfl) (fun _ _ _ h => h) rfl (fun wq hq => by go_simp; first | done | with_reducible rfl) ?_
    simp only [Act.put, List.setIfInBounds_toArray, List.set_cons_zero, List.set_cons_succ]
    refine two_atH 2 7 rfl rfl (by kernel_rfl) rfl rfl (fun K hK => ?_) (fun K hK => ?_)
    · go_simp
      refine (fun hN1 => hK _ _ hN1 ?_) (D3.step ((Below.refl _ _).alloc (Nat.le_refl _) _)); clear hK K
      refine two_atH 3 7 rfl rfl (by kernel_rfl) rfl rfl (fun K hK => ?_) (fun K hK => ?_)
      · go_simp
        refine hK _ _ hN1 ?_; clear hK K
        refine lone_atH 7 rfl (by kernel_rfl) rfl (fun K hK => ?_)
        go_simp
        refine (length_any _ _ hLn).mono ?_; rintro e wN3 ⟨rfl, bN3⟩; have hcB := run_twoA wN3 A V; try (have hcA := run_twoB wN3 w5 A V (Below.block bN3 _ (by simp)))
        refine (fun hN3 => hK _ _ hN3 ?_) (hN1.step bN3); clear hK K
        refine take_atH 8 58 hN3 rfl rfl (by kernel_rfl) (by kernel_rfl) (by kernel_rfl) (fun _ _ _ h => h) rfl (fun wq hq => by go_simp; first | done | with_reducible rfl) ?_
        simp only [Act.put, List.setIfInBounds_toArray, List.set_cons_zero, List.set_cons_succ]
        refine take_atH 9 13 hN3 rfl rfl (by kernel_rfl) (by kernel_rfl) (by kernel_rfl) (fun _ _ _ h => h) rfl (fun wq hq => by go_simp; first | done | with_reducible rfl) ?_
        simp only [Act.put, List.setIfInBounds_toArray, List.set_cons_zero, List.set_cons_succ]
        refine wpAnyH_done (by kernel_rfl) ?_ _
        go_wp2
        go_meet
        exact ⟨by rw [← HX.out], hN3⟩
      · go_simp
        refine (length_any _ _ hLn).mono ?_; rintro e wN4 ⟨rfl, bN4⟩; have hcB := run_twoA wN4 A V; try (have hcA := run_twoB wN4 w5 A V (Below.block bN4 _ (by simp)))
        refine (fun hN4 => hK _ _ hN4 ?_) (hN1.step bN4); clear hK K
        refine lone_atH 3 rfl (by kernel_rfl) rfl (fun K hK => ?_)
        go_simp
        refine hK _ _ hN4 ?_; clear hK K
        refine take_atH 8 58 hN4 rfl rfl (by kernel_rfl) (by kernel_rfl) (by kernel_rfl) (fun _ _ _ h => h) rfl (fun wq hq => by go_simp; first | done | with_reducible rfl) ?_
        simp only [Act.put, List.setIfInBounds_toArray, List.set_cons_zero, List.set_cons_succ]
        refine take_atH 9 13 hN4 rfl rfl (by kernel_rfl) (by kernel_rfl) (by kernel_rfl) (fun _ _ _ h => h) rfl (fun wq hq => by go_simp; first | done | with_reducible rfl) ?_
        simp only [Act.put, List.setIfInBounds_toArray, List.set_cons_zero, List.set_cons_succ]
        refine wpAnyH_done (by kernel_rfl) ?_ _
        go_wp2
        go_meet
        exact ⟨by rw [← HX.out], hN4⟩
    · go_simp
      refine (length_any _ _ hLn).mono ?_; rintro e wN6 ⟨rfl, bN6⟩; have hcB := run_twoA wN6 A V; try (have hcA := run_twoB wN6 w5 A V (Below.block bN6 _ (by simp)))
      refine (fun hN6 => hK _ _ hN6 ?_) (D3.step bN6); clear hK K
      refine lone_atH 2 rfl (by kernel_rfl) rfl (fun K hK => ?_)
      go_simp
      refine (fun hN7 => hK _ _ hN7 ?_) (hN6.step ((Below.refl _ _).alloc (Nat.le_refl _) _)); clear hK K
      refine lone_atH 3 rfl (by kernel_rfl) rfl (fun K hK => ?_)
      go_simp
      refine hK _ _ hN7 ?_; clear hK K
      refine take_atH 8 58 hN7 rfl rfl (by kernel_rfl) (by kernel_rfl) (by kernel_rfl) (fun _ _ _ h => h) rfl (fun wq hq => by go_simp; first | done | with_reducible rfl) ?_
      simp only [Act.put, List.setIfInBounds_toArray, List.set_cons_zero, List.set_cons_succ]
      refine take_atH 9 13 hN7 rfl rfl (by kernel_rfl) (by kernel_rfl) (by kernel_rfl) (fun _ _ _ h => h) rfl (fun wq hq => by go_simp; first | done | with_reducible rfl) ?_
      simp only [Act.put, List.setIfInBounds_toArray, List.set_cons_zero, List.set_cons_succ]
      refine wpAnyH_done (by kernel_rfl) ?_ _
      go_wp2
      go_meet
      exact ⟨by rw [← HX.out], hN7⟩
  case rest =>
    obtain ⟨rfl, D5⟩ := hcut
    have B5s := D5.below.size
    obtain ⟨_, f0, f1, f2, f3, f4, f5, f6⟩ := D5.fr
    obtain ⟨i0, hi0, hz0, hz1, hz2⟩ := info_parts u8row
    have r0 : (wc.alloc (.cells #[.int .u8 249] 5)).ownsRow wc.heap.size 5 1 (.slice (some ⟨wc.heap.size, 0, none⟩) 1 1) 1 (u8s [249]) := own_lit8 wc [249] wc.heap.size (Nat.le_refl _)
    have hcat : ¬ 9223372036854775807 < X.size + i.size := by omega
    obtain ⟨Y, hY⟩ : ∃ Y, X ++ i = Y := ⟨_, rfl⟩
    have hYs : Y.size ≤ 132 := by rw [← hY, ByteArray.size_append]; omega
    have HY := hide hY
    clear hY
    go_wp2_with (at_builtin; refine Lib.wpList_append_own_string _ rfl (.tmp 59) (.tmp 63) 42 9 rfl wc.heap.size 5 i0 Tryd.underlying42 Tryd.underlying9 hi0 hz0 hz1 hz2 _ _ _ rfl r0 (X ++ i) rfl (by rw [HY.out]; unfold maxLen; omega) (by rw [HY.out]; omega) (by simp) ?_; intro v5 w5 own5 hgrow5 _; have hb5 : Below wc.heap.size wc w5 := (((Below.refl _ _).alloc (Nat.le_refl _) _).grown hgrow5 (by simp) (fun j ej => by cases ej; exact Nat.le_refl _)); obtain ⟨_, p0, p1, p2, p3, p4, p5, p6⟩ := D5.fr.below hb5)
    have D6 := D5.step hb5
    rw [HY.out, strCells_u8s, ← u8s_append] at own5
    refine (bcheck_any k X i _ (HF.out _ D6.below) (by omega) (by omega)).mono ?_
    rintro e w6 ⟨rfl, rfl⟩
    have hS9 := chk_lt k X i
    obtain ⟨S, hS⟩ : ∃ S, chk k X i = S := ⟨_, rfl⟩
    rw [hS] at hS9 ⊢
    have HS := hide hS
    clear hS f0 f1 f2 f3 f4 f5 f6 p0 p1 p2 p3 p4 p5 p6 hgrow5 r0
    obtain ⟨a5, c5, rfl⟩ := own8_form own5
    have hBY : Bytes ([249] ++ bl Y ++ [S, 249]) := bytes_append (bytes_append (bytes_cons (by omega) bytes_nil) (bl_bytes Y)) (bytes_cons (by omega) (bytes_cons (by omega) bytes_nil))
    have HBY := hide hBY
    have hw5 := hb5.size
    clear hBY
    go_wp2_with (at_builtin; refine wpList_append_own _ rfl (.tmp 65) (.tmp 72) 42 rfl wc.heap.size 5 i0 (.int .u8 0) 1 1 Tryd.underlying42 hi0 hz0 hz1 hz2 rfl (by decide) _ _ _ rfl (own5.alloc _) ⟨w5.heap.size, 0, none⟩ 2 2 [.int .u8 (S : Int), .int .u8 249] rfl rfl (cell_two_new _ _ _ _) (by simp [Value.oneCell']) (by unfold maxLen; omega) (by omega) (by simp; omega) ?_; intro v8 w8 r8 hgrow _; obtain ⟨a8, c8, rfl⟩ := own8_form r8; have B8 := D6.below.trans ((own8_grown own5 hw5 hgrow).mono B5s); have hcv := run_own (l := [249] ++ bl Y ++ [S, 249]) (by rw [u8s_append]; exact r8) HBY.out)
    go_ret2
    refine ⟨?_, B8⟩
    rw [HRES.out, HS.out, HY.out]
    rw [show Y = st (bl Y) from (st_bl Y).symm, st_append, st_append, st_append]
    rw [bl_st (bl_bytes Y)]
    simp
end Go.Proofs.YtnnimkailajgaaaDoor.Bs
