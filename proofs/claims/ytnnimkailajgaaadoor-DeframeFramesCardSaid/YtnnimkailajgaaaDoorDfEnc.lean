/- The octets of an encoded frame, as the deframer takes them. -/
import Derived.Test.YtnnimkailajgaaaDoorDfPlain
namespace Go.Proofs.YtnnimkailajgaaaDoor
open Go.RowKit
set_option linter.unusedVariables false
set_option linter.unusedSimpArgs false

/-- A body in the making. -/
theorem wants_body {n1 : Int} {a v f n : Nat} {m : List Nat} (ha : a % 2 = 1) (hN : (n : Int) ≤ room n1) (hm : m.length = n) (hb : Bytes ([a, v] ++ (lenL n ++ (m ++ [f])))) (j : Nat) (h0 : 0 < j) (hj : j ≤ ([a, v] ++ (lenL n ++ (m ++ [f]))).length) :
    wantsI n1 (([a, v] ++ (lenL n ++ (m ++ [f]))).take j) = ((([a, v] ++ (lenL n ++ (m ++ [f]))).length : Nat) : Int) - j ∨ (0 < wantsI n1 (([a, v] ++ (lenL n ++ (m ++ [f]))).take j) ∧ j < ([a, v] ++ (lenL n ++ (m ++ [f]))).length) := by
  have hr := room_le n1
  have hlen : ([a, v] ++ (lenL n ++ (m ++ [f]))).length = 3 + (lenL n).length + n := by simp only [List.length_append, List.length_cons, List.length_nil]; omega
  have hll : 1 ≤ (lenL n).length := by rw [lenL_len]; split <;> omega
  have hl : (([a, v] ++ (lenL n ++ (m ++ [f]))).take j).length = j := by rw [List.length_take]; omega
  have hg0 : (([a, v] ++ (lenL n ++ (m ++ [f]))).take j).getD 0 0 = a := by
    simp only [List.getD, List.getElem?_take, h0, if_pos]
    rfl
  have hbt : Bytes ((([a, v] ++ (lenL n ++ (m ++ [f]))).take j).drop 2) := fun y hy => hb y (List.mem_of_mem_take (List.mem_of_mem_drop hy))
  have hgo : ∀ q, 2 + q < j → oc (st ((([a, v] ++ (lenL n ++ (m ++ [f]))).take j).drop 2)) q = (lenL n ++ (m ++ [f])).getD q 0 := by
    intro q hq
    unfold oc
    rw [bl_st hbt]
    simp only [List.getD, List.getElem?_drop, List.getElem?_take, hq, if_pos]
    rw [List.getElem?_append_right (by simp)]
    simp
  have hsz : (st ((([a, v] ++ (lenL n ++ (m ++ [f]))).take j).drop 2)).size = j - 2 := by rw [st_size, List.length_drop, hl]
  generalize hG : ([a, v] ++ (lenL n ++ (m ++ [f]))).take j = g at *
  unfold wantsI
  rw [hl, hg0, if_neg (by omega)]
  by_cases h2 : j ≤ 2
  · rw [if_pos h2]
    exact .inr ⟨by omega, by omega⟩
  rw [if_neg h2]
  by_cases h7 : n < 128
  · have hL : lenL n = [2 * n + 1] := by unfold lenL; rw [if_pos h7]
    have o0 : oc (st (g.drop 2)) 0 = 2 * n + 1 := by rw [hgo 0 (by omega), hL]; rfl
    have k1 : tkOk (st (g.drop 2)) = true := by unfold tkOk; rw [o0, hsz]; simp; omega
    have k2 : tkN (st (g.drop 2)) = n := by unfold tkN; rw [o0, if_pos (by omega)]; omega
    have k3 : tkZ (st (g.drop 2)) = 1 := by unfold tkZ; rw [o0, if_pos (by omega)]
    have k4 : (lenL n).length = 1 := by rw [hL]; rfl
    rw [k1, k2, k3, if_neg (by simp), if_neg (by rw [k4]; omega)]
    left
    rw [hlen, k4]
    omega
  · have hL : lenL n = [2 * (n % 128), n / 128] := by unfold lenL; rw [if_neg h7]
    have o0 : oc (st (g.drop 2)) 0 = 2 * (n % 128) := by rw [hgo 0 (by omega), hL]; rfl
    have k4 : (lenL n).length = 2 := by rw [hL]; rfl
    by_cases h3 : j = 3
    · have k1 : tkOk (st (g.drop 2)) = false := by unfold tkOk; rw [o0, hsz]; simp; omega
      rw [k1, if_pos rfl]
      exact .inr ⟨by omega, by omega⟩
    · have o1 : oc (st (g.drop 2)) 1 = n / 128 := by rw [hgo 1 (by omega), hL]; rfl
      have k1 : tkOk (st (g.drop 2)) = true := by unfold tkOk; rw [hsz]; simp; omega
      have k2 : tkN (st (g.drop 2)) = n := by unfold tkN; rw [o0, o1, if_neg (by omega)]; omega
      have k3 : tkZ (st (g.drop 2)) = 2 := by unfold tkZ; rw [o0, if_neg (by omega)]
      rw [k1, k2, k3, if_neg (by simp), if_neg (by rw [k4]; omega)]
      left
      rw [hlen, k4]
      omega

/-- What Encode answers. -/
theorem enc_form (adv : Bool) (f : Fr) (b : Bool) (n1 : Int) : ∃ (x : ByteArray) (e : Int), encE adv f b n1 = .returned (.tuple #[.string x, .int .i64 e]) ∧ x.size ≤ 600 ∧
    (e = 0 → ∃ t : ByteArray, x = wr adv t ∧ decO adv t b n1 = some f ∧ BodyOk adv n1 (bl t) ∧ 1 ≤ (bl t).length) := by
  obtain ⟨d, c, k, p, s, r, i⟩ := f
  have hroom := room_le n1
  cases adv with
  | true =>
    show ∃ (x : ByteArray) (e : Int), encR d c k p s r i b n1 = _ ∧ _
    unfold encR
    by_cases hm : mayOk d c k s r i = false
    · rw [if_pos hm]; exact ⟨_, _, rfl, by decide, fun h => by simp at h⟩
    rw [if_neg hm]
    have hm1 : mayOk d c k s r i = true := by simpa using hm
    by_cases hr : room n1 < (i.size : Int)
    · rw [if_pos hr]; exact ⟨_, _, rfl, by decide, fun h => by simp at h⟩
    rw [if_neg hr]
    have hsz := encL_size k (octF d c k p s r i b)
    have hos := octF_size d k s r c p i b
    have hby : Bytes (bl (octF d c k p s r i b) ++ [fsum (bl (cov k (octF d c k p s r i b)))]) := bytes_append (bl_bytes _) (bytes_cons (fsum_lt _) bytes_nil)
    have hdec := decT_back d k s r c p i b n1 hm1 hr
    refine ⟨st (encL k (octF d c k p s r i b)), _, rfl, by omega, fun _ => ⟨st (stuff (bl (octF d c k p s r i b) ++ [fsum (bl (cov k (octF d c k p s r i b)))])), ?_, ?_, ?_, ?_⟩⟩
    · unfold wr encL fl
      rw [bl_st (stuff_bytes hby)]
      rfl
    · have hE : decE true (st (stuff (bl (octF d c k p s r i b) ++ [fsum (bl (cov k (octF d c k p s r i b)))]))) b n1 = .returned (.tuple #[(⟨d, c, k, p, s, r, i⟩ : Fr).v, .int .i64 0]) := by
        show decR _ b n1 = _
        rw [decR_some b n1 (t := bl (octF d c k p s r i b) ++ [fsum (bl (cov k (octF d c k p s r i b)))]) (by rw [bl_st (stuff_bytes hby)]; exact unst_stuff _)]
        exact hdec
      rw [decO_of hE, if_pos rfl]
    · rw [bl_st (stuff_bytes hby)]
      have hl := (stuff_length (bl (octF d c k p s r i b) ++ [fsum (bl (cov k (octF d c k p s r i b)))])).2
      rw [List.length_append, bl_length, List.length_singleton] at hl
      refine ⟨fun _ => ⟨fun y hy e => stuff_clean _ (e ▸ hy), ?_⟩, fun h => (by cases h), fun h => (by cases h), fun h => (by cases h)⟩
      unfold most
      omega
    · rw [bl_st (stuff_bytes hby)]
      have hl := (stuff_length (bl (octF d c k p s r i b) ++ [fsum (bl (cov k (octF d c k p s r i b)))])).1
      rw [List.length_append, bl_length, List.length_singleton] at hl
      omega
  | false =>
    show ∃ (x : ByteArray) (e : Int), Bs.encR4 d c k p s r i b n1 = _ ∧ _
    unfold Bs.encR4
    by_cases hm : mayOk d c k s r i = false ∨ eaA d (c == b) = 249
    · rw [if_pos hm]; exact ⟨_, _, rfl, by decide, fun h => by simp at h⟩
    rw [if_neg hm]
    have hm1 : mayOk d c k s r i = true := by
      cases h : mayOk d c k s r i with
      | true => rfl
      | false => exact absurd (.inl h) hm
    have h9 : eaA d (c == b) ≠ 249 := fun h => hm (.inr h)
    by_cases hr : room n1 < (i.size : Int)
    · rw [if_pos hr]; exact ⟨_, _, rfl, by decide, fun h => by simp at h⟩
    rw [if_neg hr]
    obtain ⟨hp, hd, _⟩ := Bs.mayOk_parts hm1
    obtain ⟨q1, q2, q3⟩ := Bs.dec_body d k s r c p i b n1 hm1 h9 hr
    have hl : 1 ≤ (lenL i.size).length ∧ (lenL i.size).length ≤ 2 := by rw [lenL_len]; split <;> omega
    have hbl := Bs.bl_bodyF d k s r c p i b (putN_lt p hp) (by omega)
    have ha := (ea_parts hd (c == b)).1
    have hwb := bl_bytes (Bs.bodyF d c k p s r i b)
    rw [hbl] at hwb
    have hml : (bl i).length = i.size := bl_length i
    have hW := fun j => wants_body (n1 := n1) (a := eaA d (c == b)) (v := putN k p s r) (f := Bs.chk k (Bs.headF d c k p s r i b) i) (n := i.size) (m := bl i) ha (by omega) hml hwb j
    rw [← hbl] at hW
    have hsz := Bs.flg_size (Bs.bodyF d c k p s r i b)
    refine ⟨Bs.flg (Bs.bodyF d c k p s r i b), _, rfl, by omega, fun _ => ⟨Bs.bodyF d c k p s r i b, ?_, ?_, ?_, ?_⟩⟩
    · apply bl_inj
      rw [bl_wr, Bs.bl_flg]
      rfl
    · have hE : decE false (Bs.bodyF d c k p s r i b) b n1 = .returned (.tuple #[(⟨d, c, k, p, s, r, i⟩ : Fr).v, .int .i64 0]) := q1
      rw [decO_of hE, if_pos rfl]
    · refine ⟨fun h => (by cases h), fun _ => ?_, fun _ j h0 hj => ?_, fun _ => ?_⟩
      · rw [hbl]; exact h9
      · rcases hW j h0 (by omega) with h | h <;> omega
      · have h := hW (bl (Bs.bodyF d c k p s r i b)).length (by rw [bl_length]; omega) (Nat.le_refl _)
        rw [List.take_length] at h
        rcases h with h | h <;> omega
    · rw [bl_length]; omega
end Go.Proofs.YtnnimkailajgaaaDoor
