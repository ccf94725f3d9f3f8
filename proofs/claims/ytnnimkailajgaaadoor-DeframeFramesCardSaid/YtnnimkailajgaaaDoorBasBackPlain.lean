/- What is encoded is decoded as it was, and what is decoded is encoded as it was: the plain laws. -/
import Derived.Test.YtnnimkailajgaaaDoorBasRPar
namespace Go.Proofs.YtnnimkailajgaaaDoor.Bs
open Go.RowKit
set_option linter.unusedVariables false
set_option linter.unusedSimpArgs false

theorem tl_bl (t : ByteArray) : bl (tl t) = (bl t).drop 2 := by
  unfold tl
  rw [bl_extract, List.take_of_length_le (by rw [List.length_drop, bl_length]; omega)]
theorem bl_st2 {x y : Nat} (hx : x ≤ 255) (hy : y ≤ 255) : bl (st [x, y]) = [x, y] := bl_st (bytes_cons (by omega) (bytes_cons (by omega) bytes_nil))
/-- A body that is told by its list. -/
theorem pts_of {t : ByteArray} {a v f n : Nat} {i : ByteArray} (h : bl t = [a, v] ++ (lenL n ++ (bl i ++ [f]))) (hn : i.size = n) (hN : n ≤ 32767) :
    tkOk (tl t) = true ∧ tkN (tl t) = n ∧ tkZ (tl t) = (lenL n).length ∧ t.size = 2 + (lenL n).length + n + 1 ∧ oc t 0 = a ∧ oc t 1 = v ∧ oc t (t.size - 1) = f ∧
    bl (t.extract 0 (2 + (lenL n).length)) = [a, v] ++ lenL n ∧ t.extract (2 + (lenL n).length) (t.size - 1) = i := by
  have hsz : t.size = 2 + (lenL n).length + n + 1 := by
    have := congrArg List.length h
    simp only [bl_length, List.length_append, List.length_cons, List.length_nil] at this
    omega
  have htl : bl (tl t) = lenL n ++ (bl i ++ [f]) := by rw [tl_bl, h]; rfl
  have ho : ∀ j, oc (tl t) j = (lenL n ++ (bl i ++ [f])).getD j 0 := fun j => by unfold oc; rw [htl]
  have hts : (tl t).size = (lenL n).length + (n + 1) := by
    have := congrArg List.length htl
    simp only [bl_length, List.length_append, List.length_cons, List.length_nil] at this
    omega
  have hil : (bl i).length = n := by rw [bl_length, hn]
  have key : tkOk (tl t) = true ∧ tkN (tl t) = n ∧ tkZ (tl t) = (lenL n).length := by
    by_cases h7 : n < 128
    · have hL : lenL n = [2 * n + 1] := by unfold lenL; rw [if_pos h7]
      have h0 : oc (tl t) 0 = 2 * n + 1 := by rw [ho, hL]; rfl
      rw [hL] at hts
      simp only [List.length_cons, List.length_nil] at hts
      refine ⟨?_, ?_, ?_⟩
      · unfold tkOk; rw [h0]; simp; omega
      · unfold tkN; rw [h0, if_pos (by omega)]; omega
      · unfold tkZ; rw [h0, if_pos (by omega), hL]; rfl
    · have hL : lenL n = [2 * (n % 128), n / 128] := by unfold lenL; rw [if_neg h7]
      have h0 : oc (tl t) 0 = 2 * (n % 128) := by rw [ho, hL]; rfl
      have h1 : oc (tl t) 1 = n / 128 := by rw [ho, hL]; rfl
      rw [hL] at hts
      simp only [List.length_cons, List.length_nil] at hts
      refine ⟨?_, ?_, ?_⟩
      · unfold tkOk; simp; omega
      · unfold tkN; rw [h0, h1, if_neg (by omega)]; omega
      · unfold tkZ; rw [h0, if_neg (by omega), hL]; rfl
  refine ⟨key.1, key.2.1, key.2.2, hsz, ?_, ?_, ?_, ?_, ?_⟩
  · unfold oc; rw [h]; rfl
  · unfold oc; rw [h]; rfl
  · unfold oc
    rw [h, show t.size - 1 = ([a, v] ++ (lenL n ++ bl i)).length by simp only [List.length_append, List.length_cons, List.length_nil]; omega]
    rw [show [a, v] ++ (lenL n ++ (bl i ++ [f])) = ([a, v] ++ (lenL n ++ bl i)) ++ [f] by simp]
    simp only [List.getD]
    rw [List.getElem?_append_right (Nat.le_refl _)]
    simp
  · rw [bl_extract, List.drop_zero, Nat.sub_zero, h, ← List.append_assoc]
    rw [show 2 + (lenL n).length = ([a, v] ++ lenL n).length by simp only [List.length_append, List.length_cons, List.length_nil]]
    exact List.take_left' rfl
  · apply bl_inj
    rw [bl_extract, h, ← List.append_assoc]
    rw [show 2 + (lenL n).length = ([a, v] ++ lenL n).length by simp only [List.length_append, List.length_cons, List.length_nil]]
    rw [List.drop_left' rfl]
    rw [show t.size - 1 - ([a, v] ++ lenL n).length = (bl i).length by simp only [List.length_append, List.length_cons, List.length_nil]; omega]
    exact List.take_left' rfl

theorem bl_headF (d k s r : Nat) (c p : Bool) (i : ByteArray) (b : Bool) (hp : putN k p s r ≤ 255) (hi : i.size ≤ 32767) : bl (headF d c k p s r i b) = [eaA d (c == b), putN k p s r] ++ lenL i.size := by
  have := eaA_le d (c == b)
  unfold headF
  rw [bl_st (bytes_append (bytes_cons (by omega) (bytes_cons (by omega) bytes_nil)) (lenL_bytes hi))]
theorem bl_bodyF (d k s r : Nat) (c p : Bool) (i : ByteArray) (b : Bool) (hp : putN k p s r ≤ 255) (hi : i.size ≤ 32767) :
    bl (bodyF d c k p s r i b) = [eaA d (c == b), putN k p s r] ++ (lenL i.size ++ (bl i ++ [chk k (headF d c k p s r i b) i])) := by
  have hc := chk_lt k (headF d c k p s r i b) i
  unfold bodyF
  rw [bl_append, bl_append, bl_headF d k s r c p i b hp hi, bl_st (bytes_cons (by omega) bytes_nil)]
  simp
theorem mayOk_parts {d k s r : Nat} {c : Bool} {i : ByteArray} (h : mayOk d c k s r i = true) : putOk k s r = true ∧ d ≤ 63 ∧ carF c k i = true := by
  rw [mayOk_eq] at h; simp at h; exact ⟨h.1.1, h.1.2, h.2⟩

/-- What is decoded of a frame's body. -/
theorem dec_body (d k s r : Nat) (c p : Bool) (i : ByteArray) (b : Bool) (n1 : Int) (hm : mayOk d c k s r i = true) (h9 : eaA d (c == b) ≠ 249) (hr : ¬ room n1 < (i.size : Int)) :
    decT4 (bodyF d c k p s r i b) b n1 = .returned (.tuple #[frV d c k p s r i, .int .i64 0]) ∧ ptsB (bodyF d c k p s r i b) = true ∧ (bodyF d c k p s r i b).size = 3 + (lenL i.size).length + i.size := by
  obtain ⟨hp, hd, hcf⟩ := mayOk_parts hm
  have hp9 := putN_lt p hp
  have hi2 : i.size ≤ 128 := by unfold room at hr; omega
  have hbt := bl_bodyF d k s r c p i b hp9 (by omega)
  have hht := bl_headF d k s r c p i b hp9 (by omega)
  obtain ⟨g1, g2, g3, g4⟩ := get_put p hp
  obtain ⟨a1, a2, a3⟩ := ea_parts hd (c == b)
  have hk1 : k ≠ 0 := by have := (putOk_parts hp).1; omega
  generalize bodyF d c k p s r i b = t at *
  generalize hHd : headF d c k p s r i b = H at *
  obtain ⟨q1, q2, q3, q4, q5, q6, q7, q8, q9⟩ := pts_of hbt rfl (by omega)
  have hH : hdN t = 2 + (lenL i.size).length := by unfold hdN; rw [q3]
  have e1 : t.extract 0 (hdN t) = H := bl_inj (by rw [hH, q8, hht])
  have e2 : t.extract (hdN t) (t.size - 1) = i := by rw [hH, q9]
  have hll : 1 ≤ (lenL i.size).length := by rw [lenL_len]; split <;> omega
  have hP : ptsB t = true := by
    unfold ptsB
    rw [q1, q2, q3, hH, q5, decide_eq_true (show 4 ≤ t.size by omega), decide_eq_false h9, decide_eq_true (show 2 + (lenL i.size).length + i.size + 1 = t.size by omega)]
    simp
  refine ⟨?_, hP, by omega⟩
  unfold decT4
  rw [e1, e2, hP, q5, q6, q7, g1, g2, g3, g4, a2, a3, bit_twice]
  rw [if_neg (by simp), if_neg (by omega), if_neg hk1, if_neg (by simp), if_neg (by rw [hcf]; simp), if_neg hr]

set_option maxHeartbeats 1000000 in
/-- A body's list. -/
theorem pts_list {t : ByteArray} (h : ptsB t = true) : bl t = [oc t 0, oc t 1] ++ (lenL (tkN (tl t)) ++ (bl (t.extract (hdN t) (t.size - 1)) ++ [oc t (t.size - 1)])) ∧ (t.extract (hdN t) (t.size - 1)).size = tkN (tl t) ∧ bl (t.extract 0 (hdN t)) = [oc t 0, oc t 1] ++ lenL (tkN (tl t)) := by
  obtain ⟨h4, h9, hk, hz, hs⟩ := ptsB_parts h
  have hsame := (len_same hk).1 hz
  have hb := congrArg bl hsame
  rw [bl_st (lenL_bytes (tkN_le _)), bl_extract, List.drop_zero, Nat.sub_zero, tl_bl, ← hz] at hb
  have hzl : (lenL (tkN (tl t))).length = tkZ (tl t) := hz
  have hH : hdN t = 2 + (lenL (tkN (tl t))).length := by unfold hdN; rw [hz]
  have hsz : (t.extract (hdN t) (t.size - 1)).size = tkN (tl t) := by rw [ByteArray.size_extract]; omega
  generalize tkN (tl t) = n at *
  generalize hL : lenL n = L at *
  have t2 : (bl t).take 2 = [oc t 0, oc t 1] := by
    have q0 := take_succ_getD (bl t) 0 (by rw [bl_length]; omega)
    have q1 := take_succ_getD (bl t) 1 (by rw [bl_length]; omega)
    rw [List.take_zero] at q0
    rw [q1, q0]
    rfl
  have t3 : (bl t).take (2 + L.length) = [oc t 0, oc t 1] ++ L := by
    rw [List.take_add, t2, ← hb]
  have t4 : bl (t.extract (hdN t) (t.size - 1)) = ((bl t).drop (2 + L.length)).take n := by
    rw [bl_extract, hH, show t.size - 1 - (2 + L.length) = n by omega]
  have t5 : (bl t).drop (t.size - 1) = [oc t (t.size - 1)] := by
    have hlt : t.size - 1 < (bl t).length := by rw [bl_length]; omega
    rw [List.drop_eq_getElem_cons hlt, List.drop_of_length_le (by rw [bl_length]; omega)]
    have e : oc t (t.size - 1) = (bl t)[t.size - 1] := by
      unfold oc
      simp only [List.getD, List.getElem?_eq_getElem hlt, Option.getD_some]
    rw [e]
  refine ⟨?_, hsz, by rw [bl_extract, List.drop_zero, Nat.sub_zero, hH, t3]⟩
  rw [t4, ← t5]
  have e1 : bl t = (bl t).take (2 + L.length) ++ (bl t).drop (2 + L.length) := (List.take_append_drop _ _).symm
  have e2 : (bl t).drop (2 + L.length) = ((bl t).drop (2 + L.length)).take n ++ ((bl t).drop (2 + L.length)).drop n := (List.take_append_drop _ _).symm
  have e3 : ((bl t).drop (2 + L.length)).drop n = (bl t).drop (t.size - 1) := by rw [List.drop_drop, show 2 + L.length + n = t.size - 1 by omega]
  rw [e3] at e2
  rw [← e2, ← List.append_assoc, ← t3]
  exact e1

/-- What is decoded is a frame's body. -/
theorem dec_only {t : ByteArray} {b : Bool} {n1 : Int} {d k s r : Nat} {c p : Bool} {i : ByteArray} (h : decT4 t b n1 = .returned (.tuple #[frV d c k p s r i, .int .i64 0])) :
    t = bodyF d c k p s r i b ∧ mayOk d c k s r i = true ∧ eaA d (c == b) ≠ 249 ∧ ¬ room n1 < (i.size : Int) := by
  have hne : ∀ e : Int, e ≠ 0 → bad e ≠ .returned (.tuple #[frV d c k p s r i, .int .i64 0]) := by
    intro e he h0
    unfold bad at h0
    simp at h0
    exact he h0.2
  have hc1 := oc_lt t 1
  unfold decT4 at h
  by_cases h1 : ptsB t = false
  · rw [if_pos h1] at h; exact absurd h (hne 40 (by omega))
  rw [if_neg h1] at h
  by_cases h2 : oc t 0 % 2 = 0
  · rw [if_pos h2] at h; exact absurd h (hne 40 (by omega))
  rw [if_neg h2] at h
  by_cases h3 : gk (oc t 1) = 0
  · rw [if_pos h3] at h; exact absurd h (hne 30 (by omega))
  rw [if_neg h3] at h
  by_cases h4 : chk (gk (oc t 1)) (t.extract 0 (hdN t)) (t.extract (hdN t) (t.size - 1)) ≠ oc t (t.size - 1)
  · rw [if_pos h4] at h; exact absurd h (hne 41 (by omega))
  rw [if_neg h4] at h
  by_cases h5 : carF (decide (oc t 0 / 2 % 2 = 1) == b) (gk (oc t 1)) (t.extract (hdN t) (t.size - 1)) = false
  · rw [if_pos h5] at h; exact absurd h (hne 40 (by omega))
  rw [if_neg h5] at h
  by_cases h6 : room n1 < ((t.extract (hdN t) (t.size - 1)).size : Int)
  · rw [if_pos h6] at h; exact absurd h (hne 3 (by omega))
  rw [if_neg h6] at h
  have h1' : ptsB t = true := by simpa using h1
  have h4' : chk (gk (oc t 1)) (t.extract 0 (hdN t)) (t.extract (hdN t) (t.size - 1)) = oc t (t.size - 1) := Classical.not_not.1 h4
  obtain ⟨q1, q2, q3⟩ := pts_list h1'
  have hp9 := ptsB_parts h1'
  obtain ⟨p1, p2⟩ := put_of_get hc1 h3
  have ho := ea_of h2 (oc_lt t 0)
  have ha := oc_lt t 0
  unfold frV at h
  simp only [Ending.returned.injEq, Value.tuple.injEq, Array.mk.injEq, List.cons.injEq, Value.agg.injEq, Value.int.injEq, Value.bool.injEq, Value.string.injEq, and_true, true_and] at h
  obtain ⟨e1, e2, e3, e4, e5, e6, e7⟩ := h
  obtain rfl : oc t 0 / 4 = d := by omega
  obtain rfl : gk (oc t 1) = k := by omega
  obtain rfl : gs (oc t 1) = s := by omega
  obtain rfl : gr (oc t 1) = r := by omega
  subst e2 e4 e7
  have hI : (t.extract (hdN t) (t.size - 1)).size ≤ 32767 := by rw [q2]; exact tkN_le _
  refine ⟨?_, ?_, ?_, h6⟩
  · apply bl_inj
    rw [bl_bodyF _ _ _ _ _ _ _ _ (by rw [p2]; exact hc1) hI, bit_twice, ho, p2, q2]
    have hhd : headF (oc t 0 / 4) (decide (oc t 0 / 2 % 2 = 1) == b) (gk (oc t 1)) (gp (oc t 1)) (gs (oc t 1)) (gr (oc t 1)) (t.extract (hdN t) (t.size - 1)) b = t.extract 0 (hdN t) := by
      apply bl_inj
      rw [bl_headF _ _ _ _ _ _ _ _ (by rw [p2]; exact hc1) hI, bit_twice, ho, p2, q2, q3]
    rw [hhd, h4']
    exact q1
  · rw [mayOk_eq, p1, decide_eq_true (show oc t 0 / 4 ≤ 63 by omega)]
    simpa using h5
  · rw [bit_twice, ho]; exact hp9.2.1

/-- A text that begins as a body does, but is of another length, is none. -/
theorem pts_other {t u : ByteArray} (h : ptsB t = true) (h2 : oc u 2 = oc t 2) (h3 : 4 ≤ u.size → oc u 3 = oc t 3) (hs : u.size ≠ t.size) : ptsB u = false := by
  by_cases h4 : 4 ≤ u.size
  · obtain ⟨t4, _, _, _, hsz⟩ := ptsB_parts h
    have e3 := h3 h4
    have a0 : oc (tl u) 0 = oc (tl t) 0 := by rw [tl_oc, tl_oc]; exact h2
    have a1 : oc (tl u) 1 = oc (tl t) 1 := by rw [tl_oc, tl_oc]; exact e3
    have hz : tkZ (tl u) = tkZ (tl t) := by unfold tkZ; rw [a0]
    have hn : tkN (tl u) = tkN (tl t) := by unfold tkN; rw [a0, a1]
    unfold ptsB
    rw [hn]
    rw [decide_eq_false (show ¬ hdN u + tkN (tl t) + 1 = u.size by unfold hdN at hsz ⊢; rw [hz]; omega)]
    simp
  · unfold ptsB; rw [decide_eq_false h4]; rfl
theorem dec_none {u : ByteArray} (b : Bool) (n1 : Int) (h : ptsB u = false) : decT4 u b n1 = bad 40 := by unfold decT4; rw [if_pos h]
end Go.Proofs.YtnnimkailajgaaaDoor.Bs
