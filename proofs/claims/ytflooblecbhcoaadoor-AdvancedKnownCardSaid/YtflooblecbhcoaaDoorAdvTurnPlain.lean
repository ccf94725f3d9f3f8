/- A bit of a frame's information is turned: the plain law. -/
import Derived.Test.YtflooblecbhcoaaDoorAdvBackPlain
namespace Go.Proofs.YtflooblecbhcoaaDoor
open Go.RowKit
set_option linter.unusedVariables false
set_option linter.unusedSimpArgs false

theorem reg_cons (r b : Nat) (l : List Nat) : reg r (b :: l) = reg (fS (r ^^^ b)) l := by rw [show b :: l = [b] ++ l from rfl, reg_append]; rfl
/-- One octet is another: the check is another. -/
theorem fsum_other {A B : List Nat} {x y : Nat} (hA : Bytes A) (hB : Bytes B) (hx : x < 256) (hy : y < 256) (hne : x ≠ y) : fsum (A ++ x :: B) ≠ fsum (A ++ y :: B) := by
  intro h
  have bx : Bytes (A ++ x :: B) := bytes_append hA (bytes_cons hx hB)
  have yb : Bytes (A ++ y :: B) := bytes_append hA (bytes_cons hy hB)
  have e : reg 255 (A ++ x :: B) = reg 255 (A ++ y :: B) := by
    have l1 := reg_lt 255 _ (by omega) bx
    have l2 := reg_lt 255 _ (by omega) yb
    unfold fsum at h
    omega
  have hr := reg_lt 255 A (by omega) hA
  rw [reg_append, reg_append, reg_cons, reg_cons] at e
  have e2 := reg_inj (fS_lt _ (xor_lt hr hx)) (fS_lt _ (xor_lt hr hy)) hB e
  have e3 := fS_inj (xor_lt hr hx) (xor_lt hr hy) e2
  have e4 := congrArg (reg 255 A ^^^ ·) e3
  simp only [xor_self_cancel] at e4
  exact hne e4

theorem decR_turn (x0 x1 f : Nat) (A B : List Nat) (old now k : Nat) (b : Bool) (n1 : Int) (h0 : x0 < 256) (h1 : x1 < 256) (hf : f < 256) (ho : x0 % 2 = 1) (hk : gk x1 = k) (hk0 : k ≠ 0) (hk5 : k ≠ 5) (hA : Bytes A) (hB : Bytes B) (hold : old < 256) (hnow : now < 256) (hne : old ≠ now)
    (hc : ¬ (now = 126 ∨ now = 125)) (hfs : f = fsum (x0 :: x1 :: (A ++ old :: B))) :
    decR (st (stuff (x0 :: x1 :: A) ++ now :: stuff (B ++ [f]))) b n1 = bad 41 := by
  have hI : Bytes (A ++ now :: B) := bytes_append hA (bytes_cons hnow hB)
  have hL : Bytes (x0 :: x1 :: ((A ++ now :: B) ++ [f])) := bytes_cons h0 (bytes_cons h1 (bytes_append hI (bytes_cons hf bytes_nil)))
  have hs : stuff (x0 :: x1 :: A) ++ now :: stuff (B ++ [f]) = stuff (x0 :: x1 :: ((A ++ now :: B) ++ [f])) := by
    have e1 : x0 :: x1 :: ((A ++ now :: B) ++ [f]) = (x0 :: x1 :: A) ++ (now :: (B ++ [f])) := by simp
    have hs1 : stuff1 now = [now] := if_neg hc
    rw [e1, stuff_append (x0 :: x1 :: A), stuff_cons now, hs1]
    rfl
  rw [hs, decR_some b n1 (t := x0 :: x1 :: ((A ++ now :: B) ++ [f])) (by rw [bl_st (stuff_bytes hL)]; exact unst_stuff _)]
  have hbi : bl (st (A ++ now :: B)) = A ++ now :: B := bl_st hI
  have hbt : bl (st (x0 :: x1 :: ((A ++ now :: B) ++ [f]))) = x0 :: x1 :: (bl (st (A ++ now :: B)) ++ [f]) := by rw [bl_st hL, hbi]
  generalize st (x0 :: x1 :: ((A ++ now :: B) ++ [f])) = t at *
  obtain ⟨hsz, o0, o1, ol, e1, e2⟩ := parts_of hbt
  have hn : t.size - 1 = (st (A ++ now :: B)).size + 2 := by omega
  unfold decT
  rw [hn, o0, o1, ol, hk, if_neg (by omega), if_neg (by omega), if_neg hk0]
  rw [if_pos]
  unfold cov
  rw [if_neg hk5, e1, hbi, hfs]
  have := fsum_other (A := x0 :: x1 :: A) (bytes_cons h0 (bytes_cons h1 hA)) hB hnow hold (fun h => hne h.symm)
  simpa using this

/-- The places of the octets in what is written. -/
theorem place_form (L : List Nat) (hL : Bytes L) (n : Nat) (hn : n < L.length) :
    1 + (stuff (L.take n)).length + 1 < (st (126 :: (stuff L ++ [126]))).size ∧
    ((oc (st (126 :: (stuff L ++ [126]))) (1 + (stuff (L.take n)).length) = 125 ∧ (L.getD n 0 = 126 ∨ L.getD n 0 = 125) ∧ 1 + (stuff (L.take (n + 1))).length = 1 + (stuff (L.take n)).length + 2) ∨
     (oc (st (126 :: (stuff L ++ [126]))) (1 + (stuff (L.take n)).length) = L.getD n 0 ∧ ¬ (L.getD n 0 = 126 ∨ L.getD n 0 = 125) ∧ 1 + (stuff (L.take (n + 1))).length = 1 + (stuff (L.take n)).length + 1)) := by
  have ht := take_succ_getD L n hn
  have hst : stuff L = stuff (L.take n) ++ (stuff1 (L.getD n 0) ++ stuff (L.drop (n + 1))) := by
    have e : L = L.take (n + 1) ++ L.drop (n + 1) := (List.take_append_drop _ _).symm
    conv => lhs; rw [e, stuff_append, ht, stuff_append, List.append_assoc]
    simp [stuff]
  have hb : bl (st (126 :: (stuff L ++ [126]))) = 126 :: (stuff L ++ [126]) := bl_st (bytes_cons (by omega) (bytes_append (stuff_bytes hL) (bytes_cons (by omega) bytes_nil)))
  have hl1 := (stuff1_length (L.getD n 0)).1
  refine ⟨?_, ?_⟩
  · rw [st_size, hst]; simp only [List.length_cons, List.length_append, List.length_nil]; omega
  · unfold oc
    rw [hb, ht, stuff_append, List.length_append, hst]
    generalize L.getD n 0 = a
    generalize stuff (L.take n) = u
    generalize stuff (L.drop (n + 1)) = v
    have hsa : stuff [a] = stuff1 a := by simp [stuff]
    rw [hsa, Nat.add_comm 1 u.length, List.getD_cons_succ]
    unfold stuff1
    by_cases h : a = 126 ∨ a = 125
    · left; rw [if_pos h]; exact ⟨by simp, h, by simp; omega⟩
    · right; rw [if_neg h]; exact ⟨by simp, h, by simp; omega⟩
theorem enc_inner (l : List Nat) (hl : Bytes l) : (st (126 :: (l ++ [126]))).extract 1 ((st (126 :: (l ++ [126]))).size - 1) = st l := by
  apply bl_inj
  rw [bl_extract, bl_st (bytes_cons (by omega) (bytes_append hl (bytes_cons (by omega) bytes_nil))), st_size, bl_st hl]
  simp

/-- What AdvancedTurned needs: Encode refuses, or it yields octets in which the place of an octet is found, and that octet turned is not decoded. -/
theorem turn_form (d k s r : Nat) (c p : Bool) (i : ByteArray) (b : Bool) (kk now : Nat) (hi : i.size ≤ 128) (hk5 : k ≠ 5) (hkk : kk < i.size) (ho1 : ¬ (oc i kk = 126 ∨ oc i kk = 125)) (hn1 : ¬ (now = 126 ∨ now = 125)) (hnow : now < 256) (hne : oc i kk ≠ now) :
    encR d c k p s r i b 128 = .returned (.tuple #[.string ⟨#[]⟩, .int .i64 2]) ∨ ∃ (x : ByteArray) (F : Nat → Nat), encR d c k p s r i b 128 = .returned (.tuple #[.string x, .int .i64 0]) ∧ 5 ≤ x.size ∧ x.size ≤ 600 ∧ F 0 = 1 ∧
      (∀ n, n < 2 + kk → F n < x.size ∧ ((oc x (F n) = 125 ∧ F (n + 1) = F n + 2) ∨ (oc x (F n) ≠ 125 ∧ F (n + 1) = F n + 1))) ∧ 1 ≤ F (2 + kk) ∧ F (2 + kk) + 1 < x.size ∧ oc x (F (2 + kk)) = oc i kk ∧
      decR (st ((bl (x.extract 1 (x.size - 1))).set (F (2 + kk) - 1) now)) b 128 = bad 41 := by
  unfold encR
  by_cases hm : mayOk d c k s r i = false
  · rw [if_pos hm]; exact .inl rfl
  rw [if_neg hm]
  right
  rw [if_neg (by unfold room; omega)]
  have hm1 : mayOk d c k s r i = true := by simpa using hm
  obtain ⟨hp, hd⟩ := mayOk_parts hm1
  have h9 := putN_lt p hp
  have ho := bl_octF d k s r c p i b h9
  obtain ⟨g1, g2, g3, g4⟩ := get_put p hp
  obtain ⟨a1, a2, a3⟩ := ea_parts hd (c == b)
  have ha := eaA_le d (c == b)
  have hk1 : k ≠ 0 := by have := (putOk_parts hp).1; omega
  have hf := fsum_lt (bl (cov k (octF d c k p s r i b)))
  have hcov : cov k (octF d c k p s r i b) = octF d c k p s r i b := by unfold cov; rw [if_neg hk5]
  rw [hcov, ho] at hf
  have hsz := encL_size k (octF d c k p s r i b)
  rw [octF_size] at hsz
  have hE : encL k (octF d c k p s r i b) = 126 :: (stuff (eaA d (c == b) :: putN k p s r :: (bl i ++ [fsum (eaA d (c == b) :: putN k p s r :: bl i)])) ++ [126]) := by
    unfold encL; rw [hcov, ho]; rfl
  rw [hE] at hsz ⊢
  generalize eaA d (c == b) = x0 at *
  generalize putN k p s r = x1 at *
  obtain ⟨f, hfd⟩ : ∃ f, fsum (x0 :: x1 :: bl i) = f := ⟨_, rfl⟩
  rw [hfd] at hf hsz ⊢
  have hL : Bytes (x0 :: x1 :: (bl i ++ [f])) := bytes_cons (by omega) (bytes_cons (by omega) (bytes_append (bl_bytes i) (bytes_cons hf bytes_nil)))
  have hlen : (x0 :: x1 :: (bl i ++ [f])).length = i.size + 3 := by simp [bl_length]
  obtain ⟨L, hLd⟩ : ∃ L, x0 :: x1 :: (bl i ++ [f]) = L := ⟨_, rfl⟩
  have hget : L.getD (2 + kk) 0 = oc i kk := by
    rw [← hLd, Nat.add_comm 2 kk]
    show (bl i ++ [f]).getD kk 0 = (bl i).getD kk 0
    rw [List.getD_eq_getElem?_getD, List.getElem?_append_left (by rw [bl_length]; exact hkk), List.getD_eq_getElem?_getD]
  have htake : L.take (2 + kk) = x0 :: x1 :: (bl i).take kk := by
    rw [← hLd, Nat.add_comm 2 kk]
    show x0 :: x1 :: (bl i ++ [f]).take kk = _
    rw [List.take_append_of_le_length (by rw [bl_length]; omega)]
  have hdrop : L.drop (2 + kk + 1) = (bl i).drop (kk + 1) ++ [f] := by
    rw [← hLd, show 2 + kk + 1 = kk + 1 + 1 + 1 by omega]
    show (bl i ++ [f]).drop (kk + 1) = _
    rw [List.drop_append_of_le_length (by rw [bl_length]; omega)]
  have hsplit : bl i = (bl i).take kk ++ oc i kk :: (bl i).drop (kk + 1) := by
    have := take_succ_getD (bl i) kk (by rw [bl_length]; exact hkk)
    conv => lhs; rw [← List.take_append_drop (kk + 1) (bl i), this, List.append_assoc]
    rfl
  rw [hLd] at hL hlen hsz ⊢
  have hin := enc_inner (stuff L) (stuff_bytes hL)
  have hpl := fun n hn => place_form L hL n hn
  obtain ⟨q1, q2⟩ := hpl (2 + kk) (by omega)
  refine ⟨st (126 :: (stuff L ++ [126])), fun n => 1 + (stuff (L.take n)).length, rfl, by omega, by omega, by simp [stuff], fun n hn => ?_, Nat.le_add_right _ _, q1, ?_, ?_⟩
  · obtain ⟨w1, w2⟩ := hpl n (by omega)
    refine ⟨by show 1 + (stuff (L.take n)).length < _; omega, ?_⟩
    rcases w2 with ⟨w2, _, w3⟩ | ⟨w2, w3, w4⟩
    · exact .inl ⟨w2, w3⟩
    · exact .inr ⟨by rw [w2]; omega, w4⟩
  · rcases q2 with ⟨_, q3, _⟩ | ⟨q3, _, _⟩
    · rw [hget] at q3; exact absurd q3 ho1
    · rw [q3, hget]
  · rw [hin, bl_st (stuff_bytes hL)]
    have hst : stuff L = stuff (L.take (2 + kk)) ++ (oc i kk :: stuff (L.drop (2 + kk + 1))) := by
      have ht := take_succ_getD L (2 + kk) (by omega)
      conv => lhs; rw [← List.take_append_drop (2 + kk + 1) L, stuff_append, ht, stuff_append, List.append_assoc, hget]
      rw [show stuff [oc i kk] = [oc i kk] from by simp [stuff, stuff1, ho1]]
      rfl
    have hset : (stuff L).set (1 + (stuff (L.take (2 + kk))).length - 1) now = stuff (L.take (2 + kk)) ++ (now :: stuff (L.drop (2 + kk + 1))) := by
      rw [show 1 + (stuff (L.take (2 + kk))).length - 1 = (stuff (L.take (2 + kk))).length by omega, hst]
      simp
    show decR (st ((stuff L).set (1 + (stuff (L.take (2 + kk))).length - 1) now)) b 128 = bad 41
    rw [hset, htake, hdrop]
    have hb1 : Bytes ((bl i).take kk) := fun x hx => bl_bytes i x (List.mem_of_mem_take hx)
    have hb2 : Bytes ((bl i).drop (kk + 1)) := fun x hx => bl_bytes i x (List.mem_of_mem_drop hx)
    refine decR_turn x0 x1 f _ _ (oc i kk) now k b 128 (by omega) (by omega) hf a1 g1 hk1 hk5 hb1 hb2 ?_ hnow hne hn1 ?_
    · have := bytes_getD (bl_bytes i) kk; exact this
    · rw [← hsplit]; exact hfd.symm
end Go.Proofs.YtflooblecbhcoaaDoor
