/- What is encoded is decoded as it was, and what is decoded is encoded as it was: the plain laws. -/
import Derived.Test.YtnnimkailajgaaaDoorAdvLaw
namespace Go.Proofs.YtnnimkailajgaaaDoor
open Go.RowKit
set_option linter.unusedVariables false
set_option linter.unusedSimpArgs false

theorem bl_octF (d k s r : Nat) (c p : Bool) (i : ByteArray) (b : Bool) (hp : putN k p s r ≤ 255) : bl (octF d c k p s r i b) = eaA d (c == b) :: putN k p s r :: bl i := by
  have := eaA_le d (c == b)
  unfold octF
  rw [bl_append, bl_st (bytes_cons (by omega) (bytes_cons (by omega) bytes_nil))]
  rfl
theorem getD_last (l : List Nat) (x y f : Nat) (n : Nat) (h : l.length = n) : (x :: y :: (l ++ [f])).getD (n + 2) 0 = f := by subst h; simp
theorem take_front (l : List Nat) (x y f : Nat) (n : Nat) (h : l.length = n) : (x :: y :: (l ++ [f])).take (n + 2) = x :: y :: l := by subst h; simp
theorem take_inner (l : List Nat) (f : Nat) (n : Nat) (h : l.length = n) : (l ++ [f]).take n = l := by subst h; simp

/-- The parts of octets that are told by their list. -/
theorem parts_of {t i : ByteArray} {x y f : Nat} (h : bl t = x :: y :: (bl i ++ [f])) :
    t.size = i.size + 3 ∧ oc t 0 = x ∧ oc t 1 = y ∧ oc t (i.size + 2) = f ∧ bl (t.extract 0 (i.size + 2)) = x :: y :: bl i ∧ t.extract 2 (i.size + 2) = i := by
  refine ⟨?_, ?_, ?_, ?_, ?_, ?_⟩
  · have := congrArg List.length h
    rw [bl_length] at this
    simpa [bl_length] using this
  · unfold oc; rw [h]; rfl
  · unfold oc; rw [h]; rfl
  · unfold oc; rw [h]; exact getD_last _ _ _ _ _ (bl_length i)
  · rw [bl_extract, h, List.drop_zero, Nat.sub_zero]; exact take_front _ _ _ _ _ (bl_length i)
  · apply bl_inj
    rw [bl_extract, h, show i.size + 2 - 2 = i.size by omega]
    exact take_inner _ _ _ (bl_length i)

theorem ea_parts {d : Nat} (hd : d ≤ 63) (v : Bool) : eaA d v % 2 = 1 ∧ eaA d v / 4 = d ∧ decide (eaA d v / 2 % 2 = 1) = v := by
  unfold eaA
  rw [if_neg (by omega)]
  cases v
  · refine ⟨?_, ?_, ?_⟩
    · simp; omega
    · simp; omega
    · rw [decide_eq_false_iff_not]; simp; omega
  · refine ⟨?_, ?_, ?_⟩
    · simp; omega
    · simp; omega
    · rw [decide_eq_true_iff]; simp; omega
theorem ea_of {a : Nat} (h : a % 2 ≠ 0) (ha : a ≤ 255) : eaA (a / 4) (decide (a / 2 % 2 = 1)) = a := by
  unfold eaA
  rw [if_neg (by omega)]
  by_cases h2 : a / 2 % 2 = 1
  · rw [decide_eq_true h2, if_pos rfl]; omega
  · rw [decide_eq_false h2, if_neg (by simp)]; omega
theorem bit_twice (c b : Bool) : ((c == b) == b) = c := by cases c <;> cases b <;> rfl

theorem mayOk_parts {d k s r : Nat} {c : Bool} {i : ByteArray} (h : mayOk d c k s r i = true) : putOk k s r = true ∧ d ≤ 63 := by
  unfold mayOk at h; simp at h; exact ⟨h.1.1.1, h.1.1.2⟩

/-- The frame's octets with a check behind them: what is decoded of them. -/
theorem decT_back (d k s r : Nat) (c p : Bool) (i : ByteArray) (b : Bool) (n1 : Int) (hm : mayOk d c k s r i = true) (hr : ¬ room n1 < (i.size : Int)) :
    decT (st (bl (octF d c k p s r i b) ++ [fsum (bl (cov k (octF d c k p s r i b)))])) b n1 = .returned (.tuple #[frV d c k p s r i, .int .i64 0]) := by
  obtain ⟨hp, hd⟩ := mayOk_parts hm
  have h9 := putN_lt p hp
  have ho := bl_octF d k s r c p i b h9
  obtain ⟨g1, g2, g3, g4⟩ := get_put p hp
  obtain ⟨a1, a2, a3⟩ := ea_parts hd (c == b)
  have hk1 : k ≠ 0 := by have := (putOk_parts hp).1; omega
  have hf := fsum_lt (bl (cov k (octF d c k p s r i b)))
  generalize hfd : fsum (bl (cov k (octF d c k p s r i b))) = f at *
  generalize hO : octF d c k p s r i b = o at *
  have hbt : bl (st (bl o ++ [f])) = eaA d (c == b) :: putN k p s r :: (bl i ++ [f]) := by
    rw [bl_st (bytes_append (bl_bytes _) (bytes_cons hf bytes_nil)), ho]; rfl
  generalize st (bl o ++ [f]) = t at *
  obtain ⟨hsz, o0, o1, ol, e1, e2⟩ := parts_of hbt
  have e1' : t.extract 0 (i.size + 2) = o := bl_inj (by rw [e1, ho])
  have hn : t.size - 1 = i.size + 2 := by omega
  unfold decT
  rw [hn, e1', e2, o0, o1, ol, g1, g2, g3, g4, a2, a3, bit_twice, hfd]
  rw [if_neg (by omega), if_neg (by omega), if_neg hk1, if_neg (by simp), if_neg (by rw [hm]; simp), if_neg hr]

theorem encL_size (k : Nat) (o : ByteArray) : o.size + 3 ≤ (st (encL k o)).size ∧ (st (encL k o)).size ≤ 2 * o.size + 4 := by
  have h := stuff_length (bl o ++ [fsum (bl (cov k o))])
  rw [st_size]
  unfold encL
  simp only [List.length_append, List.length_cons, List.length_nil, bl_length] at h ⊢
  omega
theorem encL_bytes (k : Nat) (o : ByteArray) : Bytes (encL k o) :=
  bytes_cons (by omega) (bytes_append (stuff_bytes (bytes_append (bl_bytes _) (bytes_cons (fsum_lt _) bytes_nil))) (bytes_cons (by omega) bytes_nil))
theorem encL_inner (k : Nat) (o : ByteArray) : (st (encL k o)).extract 1 ((st (encL k o)).size - 1) = st (stuff (bl o ++ [fsum (bl (cov k o))])) := by
  apply bl_inj
  rw [bl_extract, bl_st (encL_bytes k o), st_size, bl_st (stuff_bytes (bytes_append (bl_bytes _) (bytes_cons (fsum_lt _) bytes_nil)))]
  unfold encL
  generalize stuff (bl o ++ [fsum (bl (cov k o))]) = l
  simp
theorem octF_size (d k s r : Nat) (c p : Bool) (i : ByteArray) (b : Bool) : (octF d c k p s r i b).size = i.size + 2 := by
  unfold octF; rw [ByteArray.size_append, st_size]; simp only [List.length_cons, List.length_nil]; omega

/-- What Encode answers, and what Decode makes of it. -/
theorem encR_back (d k s r : Nat) (c p : Bool) (i : ByteArray) (b : Bool) (n1 : Int) : ∃ (x : ByteArray) (e : Int), encR d c k p s r i b n1 = .returned (.tuple #[.string x, .int .i64 e]) ∧ x.size ≤ 600 ∧
    (e = 0 → 5 ≤ x.size ∧ decR (x.extract 1 (x.size - 1)) b n1 = .returned (.tuple #[frV d c k p s r i, .int .i64 0])) := by
  unfold encR
  by_cases hm : mayOk d c k s r i = false
  · rw [if_pos hm]; exact ⟨_, _, rfl, by decide, fun h => by simp at h⟩
  rw [if_neg hm]
  have hm1 : mayOk d c k s r i = true := by simpa using hm
  by_cases hr : room n1 < (i.size : Int)
  · rw [if_pos hr]; exact ⟨_, _, rfl, by decide, fun h => by simp at h⟩
  rw [if_neg hr]
  have hi2 : i.size ≤ 128 := by unfold room at hr; omega
  have hsz := encL_size k (octF d c k p s r i b)
  rw [octF_size] at hsz
  refine ⟨_, _, rfl, by omega, fun _ => ⟨by omega, ?_⟩⟩
  rw [encL_inner, decR_some b n1 (t := bl (octF d c k p s r i b) ++ [fsum (bl (cov k (octF d c k p s r i b)))])]
  · exact decT_back d k s r c p i b n1 hm1 hr
  · rw [bl_st (stuff_bytes (bytes_append (bl_bytes _) (bytes_cons (fsum_lt _) bytes_nil)))]; exact unst_stuff _

theorem split3L (l : List Nat) (n : Nat) (hn : l.length = n) (h : 3 ≤ n) : l = l.getD 0 0 :: l.getD 1 0 :: ((l.drop 2).take (n - 1 - 2) ++ [l.getD (n - 1) 0]) := by
  match l, hn with
  | [], hn => simp at hn; omega
  | [a], hn => simp at hn; omega
  | a :: b :: m, hn =>
    simp only [List.length_cons] at hn
    have h1 := take_succ_getD m (m.length - 1) (by omega)
    rw [show m.length - 1 + 1 = m.length by omega, List.take_length] at h1
    have e : n - 1 - 2 = m.length - 1 := by omega
    have e2 : n - 1 = (m.length - 1) + 1 + 1 := by omega
    rw [e, e2]
    simp only [List.getD_cons_succ, List.getD_cons_zero, List.drop_succ_cons, List.drop_zero]
    rw [← h1]
theorem split3 {t : ByteArray} (h : ¬ t.size < 3) : bl t = oc t 0 :: oc t 1 :: (bl (t.extract 2 (t.size - 1)) ++ [oc t (t.size - 1)]) := by
  rw [bl_extract]
  exact split3L (bl t) t.size (bl_length t) (by omega)

theorem wrap_st (s : ByteArray) (l : List Nat) (h : l = bl s) : st (126 :: (l ++ [126])) = ((⟨#[126]⟩ : ByteArray) ++ s) ++ ⟨#[126]⟩ := by
  subst h
  show _ = (st [126] ++ s) ++ st [126]
  conv => rhs; rw [show s = st (bl s) from (st_bl s).symm]
  rw [st_append, st_append]
  rfl

/-- What Decode answers, and what Encode makes of it. -/
theorem decR_back (s : ByteArray) (b : Bool) (n1 : Int) : ∃ d c k p s' r i e, decR s b n1 = .returned (.tuple #[frV d c k p s' r i, .int .i64 e]) ∧ d ≤ 255 ∧ k ≤ 255 ∧ s' ≤ 255 ∧ r ≤ 255 ∧ i.size ≤ 128 ∧
    (e ≠ 0 → d = 0 ∧ c = false ∧ k = 0 ∧ p = false ∧ s' = 0 ∧ r = 0 ∧ i = ⟨#[]⟩) ∧ (e = 0 → encR d c k p s' r i b n1 = .returned (.tuple #[.string (((⟨#[126]⟩ : ByteArray) ++ s) ++ ⟨#[126]⟩), .int .i64 0])) := by
  have no : ∀ e : Int, e ≠ 0 → decR s b n1 = bad e → ∃ d c k p s' r i e, decR s b n1 = .returned (.tuple #[frV d c k p s' r i, .int .i64 e]) ∧ d ≤ 255 ∧ k ≤ 255 ∧ s' ≤ 255 ∧ r ≤ 255 ∧ i.size ≤ 128 ∧
      (e ≠ 0 → d = 0 ∧ c = false ∧ k = 0 ∧ p = false ∧ s' = 0 ∧ r = 0 ∧ i = ⟨#[]⟩) ∧ (e = 0 → encR d c k p s' r i b n1 = .returned (.tuple #[.string (((⟨#[126]⟩ : ByteArray) ++ s) ++ ⟨#[126]⟩), .int .i64 0])) := fun e he h =>
    ⟨0, false, 0, false, 0, 0, ⟨#[]⟩, e, h, by omega, by omega, by omega, by omega, by decide, fun _ => ⟨rfl, rfl, rfl, rfl, rfl, rfl, rfl⟩, fun h0 => absurd h0 he⟩
  cases hu : unst (bl s) with
  | none => exact no 40 (by omega) (decR_none b n1 hu)
  | some l =>
    obtain ⟨hst, hl⟩ := stuff_of (bl_bytes s) hu
    have hd := decR_some b n1 hu
    have hlt : bl (st l) = l := bl_st hl
    generalize st l = t at *
    subst hlt
    have c0 := oc_lt t 0
    have c1 := oc_lt t 1
    by_cases h3 : t.size < 3
    · exact no 40 (by omega) (by rw [hd]; unfold decT; rw [if_pos h3])
    by_cases ho : oc t 0 % 2 = 0
    · exact no 40 (by omega) (by rw [hd]; unfold decT; rw [if_neg h3, if_pos ho])
    by_cases hk : gk (oc t 1) = 0
    · exact no 30 (by omega) (by rw [hd]; unfold decT; rw [if_neg h3, if_neg ho, if_pos hk])
    by_cases hf : fsum (bl (cov (gk (oc t 1)) (t.extract 0 (t.size - 1)))) = oc t (t.size - 1)
    · by_cases hm : mayOk (oc t 0 / 4) (decide (oc t 0 / 2 % 2 = 1) == b) (gk (oc t 1)) (gs (oc t 1)) (gr (oc t 1)) (t.extract 2 (t.size - 1)) = false
      · exact no 40 (by omega) (by rw [hd]; unfold decT; rw [if_neg h3, if_neg ho, if_neg hk, if_neg (by rw [hf]; simp), if_pos hm])
      by_cases hr : room n1 < ((t.extract 2 (t.size - 1)).size : Int)
      · exact no 3 (by omega) (by rw [hd]; unfold decT; rw [if_neg h3, if_neg ho, if_neg hk, if_neg (by rw [hf]; simp), if_neg hm, if_pos hr])
      have hi2 : (t.extract 2 (t.size - 1)).size ≤ 128 := by unfold room at hr; omega
      refine ⟨_, _, _, _, _, _, _, _, by rw [hd]; unfold decT; rw [if_neg h3, if_neg ho, if_neg hk, if_neg (by rw [hf]; simp), if_neg hm, if_neg hr], by omega, by have := gk_le (oc t 1); omega, by have := gs_le (oc t 1); omega, by have := gr_le (oc t 1) c1; omega, hi2, fun h => absurd rfl h, fun _ => ?_⟩
      unfold encR
      rw [if_neg hm, if_neg hr]
      obtain ⟨p1, p2⟩ := put_of_get c1 hk
      have h9 := split3 h3
      obtain ⟨_, _, _, _, e1, _⟩ := parts_of h9
      have hsz : (t.extract 2 (t.size - 1)).size + 2 = t.size - 1 := by rw [ByteArray.size_extract]; omega
      rw [hsz] at e1
      have ho2 : octF (oc t 0 / 4) (decide (oc t 0 / 2 % 2 = 1) == b) (gk (oc t 1)) (gp (oc t 1)) (gs (oc t 1)) (gr (oc t 1)) (t.extract 2 (t.size - 1)) b = t.extract 0 (t.size - 1) := by
        apply bl_inj
        rw [bl_octF _ _ _ _ _ _ _ _ (by rw [p2]; exact c1), e1, bit_twice, ea_of ho c0, p2]
      rw [ho2]
      unfold encL
      rw [hf]
      have hall : bl (t.extract 0 (t.size - 1)) ++ [oc t (t.size - 1)] = bl t := by rw [e1, h9]; simp
      rw [hall, wrap_st s _ hst]
    · exact no 41 (by omega) (by rw [hd]; unfold decT; rw [if_neg h3, if_neg ho, if_neg hk, if_pos hf])
end Go.Proofs.YtnnimkailajgaaaDoor
