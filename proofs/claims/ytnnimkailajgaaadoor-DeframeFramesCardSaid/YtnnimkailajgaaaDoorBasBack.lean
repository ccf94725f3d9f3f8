/- The law BasicBack: there and back. -/
import Derived.Test.YtnnimkailajgaaaDoorBasLaw
namespace Go.Proofs.YtnnimkailajgaaaDoor.Bs
open Go.RowKit
set_option linter.unusedVariables false
set_option linter.unusedSimpArgs false

/-- A body between two flags. -/
def flg (B : ByteArray) : ByteArray := st [249] ++ B ++ st [249]
theorem flg_size (B : ByteArray) : (flg B).size = B.size + 2 := by unfold flg; rw [ByteArray.size_append, ByteArray.size_append, st_size]; simp only [List.length_cons, List.length_nil]; omega
theorem bl_flag : bl (st [249]) = [249] := bl_st (bytes_cons (by omega) bytes_nil)
theorem bl_flg (B : ByteArray) : bl (flg B) = 249 :: (bl B ++ [249]) := by unfold flg; rw [bl_append, bl_append, bl_flag]; rfl
theorem flg_first (B : ByteArray) : oc (flg B) 0 = 249 := by unfold oc; rw [bl_flg]; rfl
theorem flg_last (B : ByteArray) : oc (flg B) ((flg B).size - 1) = 249 := by
  unfold oc
  rw [bl_flg, flg_size, show B.size + 2 - 1 = (249 :: bl B).length by simp only [List.length_cons, bl_length]; omega, ← List.cons_append]
  simp only [List.getD]
  rw [List.getElem?_append_right (Nat.le_refl _)]
  simp
theorem flg_inner (B : ByteArray) : (flg B).extract 1 ((flg B).size - 1) = B := by
  apply bl_inj
  rw [bl_extract, bl_flg, flg_size]
  rw [show B.size + 2 - 1 - 1 = (bl B).length by rw [bl_length]; omega]
  exact List.take_left' rfl
/-- Cut short. -/
theorem flg_cut (B : ByteArray) (j : Nat) (h : j ≤ B.size) : (flg B).extract 1 (j + 1) = B.extract 0 j := by
  apply bl_inj
  rw [bl_extract, bl_extract, bl_flg, List.drop_zero]
  rw [show j + 1 - 1 = j by omega, Nat.sub_zero]
  show (bl B ++ [249]).take j = _
  rw [List.take_append_of_le_length (by rw [bl_length]; exact h)]
theorem flg_more (B : ByteArray) : (flg B).extract 1 (flg B).size = B ++ st [249] := by
  apply bl_inj
  rw [bl_extract, bl_append, bl_flg, bl_flag, flg_size]
  rw [show B.size + 2 - 1 = (bl B ++ [249]).length by rw [List.length_append, bl_length, List.length_singleton]; omega]
  exact List.take_length

/-- What Encode answers, and what Decode makes of it. -/
theorem encR4_back (d k s r : Nat) (c p : Bool) (i : ByteArray) (b : Bool) (n1 : Int) : ∃ (x : ByteArray) (e : Int), encR4 d c k p s r i b n1 = .returned (.tuple #[.string x, .int .i64 e]) ∧ x.size ≤ 600 ∧
    (e = 0 → 6 ≤ x.size ∧ oc x 0 = 249 ∧ oc x (x.size - 1) = 249 ∧ decT4 (x.extract 1 (x.size - 1)) b n1 = .returned (.tuple #[frV d c k p s r i, .int .i64 0])) := by
  unfold encR4
  by_cases hm : mayOk d c k s r i = false ∨ eaA d (c == b) = 249
  · rw [if_pos hm]; exact ⟨_, _, rfl, by decide, fun h => by simp at h⟩
  rw [if_neg hm]
  have hm1 : mayOk d c k s r i = true := by
    cases h : mayOk d c k s r i with
    | true => rfl
    | false => exact absurd (.inl h) hm
  have h9 : eaA d (c == b) ≠ 249 := fun h => hm (.inr h)
  by_cases hr : room n1 < (i.size : Int)
  · rw [if_pos hr]; exact ⟨_, _, rfl, by decide, fun h => by simp at h⟩
  rw [if_neg hr]
  have hi2 : i.size ≤ 128 := by unfold room at hr; omega
  obtain ⟨q1, q2, q3⟩ := dec_body d k s r c p i b n1 hm1 h9 hr
  have hl : 1 ≤ (lenL i.size).length ∧ (lenL i.size).length ≤ 2 := by rw [lenL_len]; split <;> omega
  have hsz := flg_size (bodyF d c k p s r i b)
  have h0 := flg_first (bodyF d c k p s r i b)
  have h1 := flg_last (bodyF d c k p s r i b)
  have h2 := flg_inner (bodyF d c k p s r i b)
  refine ⟨flg (bodyF d c k p s r i b), _, rfl, by omega, fun _ => ⟨by omega, h0, h1, ?_⟩⟩
  rw [h2]
  exact q1
/-- What Decode answers, and what Encode makes of it. -/
theorem decR4_back (s : ByteArray) (b : Bool) (n1 : Int) : ∃ d c k p s' r i e, decT4 s b n1 = .returned (.tuple #[frV d c k p s' r i, .int .i64 e]) ∧ d ≤ 255 ∧ k ≤ 255 ∧ s' ≤ 255 ∧ r ≤ 255 ∧ (e = 0 → i.size ≤ 128) ∧
    (e ≠ 0 → d = 0 ∧ c = false ∧ k = 0 ∧ p = false ∧ s' = 0 ∧ r = 0 ∧ i = ⟨#[]⟩) ∧ (e = 0 → encR4 d c k p s' r i b n1 = .returned (.tuple #[.string (((⟨#[249]⟩ : ByteArray) ++ s) ++ ⟨#[249]⟩), .int .i64 0])) := by
  obtain ⟨d, c, k, p, s', r, i, e, hR, g0, g1, g2, g3, _, hz⟩ := decT4_form s b n1
  refine ⟨d, c, k, p, s', r, i, e, hR, g0, g1, g2, g3, ?_, hz, ?_⟩
  · intro he
    subst he
    have := (dec_only hR).2.2.2
    unfold room at this
    omega
  · intro he
    subst he
    obtain ⟨h1, h2, h3, h4⟩ := dec_only hR
    unfold encR4
    rw [if_neg (by rw [h2]; simp; exact h3), if_neg h4, ← h1]
    rfl

end Go.Proofs.YtnnimkailajgaaaDoor.Bs
