/- Texts as lists of octets; octets written so that no flag is among them, and read so: the plain laws. -/
import Derived.Test.YtnnimkailajgaaaDoorEa
import Derived.Laws.BytesArg
namespace Go.Proofs.YtnnimkailajgaaaDoor
open Go.RowKit
set_option linter.unusedVariables false
set_option linter.unusedSimpArgs false

/-- The text of octets. -/
def st (l : List Nat) : ByteArray := ⟨(l.map UInt8.ofNat).toArray⟩
theorem st_size (l : List Nat) : (st l).size = l.length := by simp [st, ByteArray.size]
theorem bl_st {l : List Nat} (h : Bytes l) : bl (st l) = l := by
  unfold bl st
  simp only [List.map_map]
  induction l with
  | nil => rfl
  | cons b l ih =>
    obtain ⟨h1, h2⟩ := h.cons
    simp only [List.map_cons, Function.comp]
    rw [ih h2]
    congr 1
    exact Nat.mod_eq_of_lt h1
theorem st_bl (s : ByteArray) : st (bl s) = s := by
  apply ByteArray.ext
  unfold st bl
  have h : (UInt8.ofNat ∘ UInt8.toNat) = id := by funext x; simp
  simp [h]
theorem st_append (l m : List Nat) : st l ++ st m = st (l ++ m) := by
  apply ByteArray.ext
  simp [st]
theorem bl_append (s t : ByteArray) : bl (s ++ t) = bl s ++ bl t := by
  unfold bl; rw [ByteArray.data_append]; simp
theorem bl_extract (s : ByteArray) (a b : Nat) : bl (s.extract a b) = ((bl s).drop a).take (b - a) := by
  unfold bl; rw [ByteArray.data_extract, Array.toList_extract, List.extract_eq_take_drop]; simp [List.map_drop, List.map_take]
theorem bl_inj {s t : ByteArray} (h : bl s = bl t) : s = t := by rw [← st_bl s, ← st_bl t, h]
theorem bl_nil : bl ⟨#[]⟩ = [] := rfl
theorem st_nil : st [] = ⟨#[]⟩ := rfl
theorem bytes_nil : Bytes [] := fun _ h => by cases h
theorem bytes_append {l m : List Nat} (hl : Bytes l) (hm : Bytes m) : Bytes (l ++ m) := fun b hb => by
  rcases List.mem_append.1 hb with h | h
  · exact hl b h
  · exact hm b h
theorem bytes_cons {b : Nat} {l : List Nat} (hb : b < 256) (hl : Bytes l) : Bytes (b :: l) := fun x hx => by
  rcases List.mem_cons.1 hx with rfl | h
  · exact hb
  · exact hl x h

/-- One octet, written. -/
def stuff1 (c : Nat) : List Nat := if c = 126 ∨ c = 125 then [125, c ^^^ 32] else [c]
def stuff (l : List Nat) : List Nat := l.flatMap stuff1
/-- Octets, read. -/
def unst : List Nat → Option (List Nat)
  | [] => some []
  | [c] => if c = 126 ∨ c = 125 then none else some [c]
  | c :: d :: r => if c = 126 then none else if c = 125 then (if d = 94 ∨ d = 93 then (unst r).map ((d ^^^ 32) :: ·) else none) else (unst (d :: r)).map (c :: ·)
theorem unst_flag (r : List Nat) : unst (126 :: r) = none := by cases r <;> simp [unst]
theorem unst_end : unst [125] = none := by simp [unst]
theorem unst_plain {c : Nat} (h : ¬ (c = 126 ∨ c = 125)) (r : List Nat) : unst (c :: r) = (unst r).map (c :: ·) := by
  cases r with
  | nil => simp [unst, h]
  | cons d r => rw [unst, if_neg (by omega), if_neg (by omega)]
theorem unst_esc {d : Nat} (h : d = 94 ∨ d = 93) (r : List Nat) : unst (125 :: d :: r) = (unst r).map ((d ^^^ 32) :: ·) := by rw [unst, if_neg (by omega), if_pos rfl, if_pos h]
theorem unst_odd {d : Nat} (h : ¬ (d = 94 ∨ d = 93)) (r : List Nat) : unst (125 :: d :: r) = none := by rw [unst, if_neg (by omega), if_pos rfl, if_neg h]

theorem stuff_nil : stuff [] = [] := rfl
theorem stuff_append (l m : List Nat) : stuff (l ++ m) = stuff l ++ stuff m := by simp [stuff]
theorem stuff_cons (c : Nat) (l : List Nat) : stuff (c :: l) = stuff1 c ++ stuff l := rfl
theorem stuff1_bytes {c : Nat} (h : c < 256) : Bytes (stuff1 c) := by
  unfold stuff1
  split
  · refine bytes_cons (by omega) (bytes_cons (xor_lt h (by omega)) bytes_nil)
  · exact bytes_cons h bytes_nil
theorem stuff_bytes {l : List Nat} (h : Bytes l) : Bytes (stuff l) := by
  induction l with
  | nil => exact bytes_nil
  | cons c l ih => rw [stuff_cons]; exact bytes_append (stuff1_bytes h.cons.1) (ih h.cons.2)
theorem stuff1_length (c : Nat) : 1 ≤ (stuff1 c).length ∧ (stuff1 c).length ≤ 2 := by unfold stuff1; split <;> simp
theorem stuff_length (l : List Nat) : l.length ≤ (stuff l).length ∧ (stuff l).length ≤ 2 * l.length := by
  induction l with
  | nil => simp [stuff]
  | cons c l ih => rw [stuff_cons, List.length_append, List.length_cons]; have := stuff1_length c; omega
/-- No flag is among them. -/
theorem stuff1_clean (c : Nat) : 126 ∉ stuff1 c := by
  unfold stuff1
  split
  · rename_i h
    rcases h with rfl | rfl <;> decide
  · simp; omega
theorem stuff_clean (l : List Nat) : 126 ∉ stuff l := by
  induction l with
  | nil => simp [stuff]
  | cons c l ih => rw [stuff_cons]; simp only [List.mem_append, not_or]; exact ⟨stuff1_clean c, ih⟩
/-- What is written is read as it was. -/
theorem unst_stuff1 (c : Nat) (r : List Nat) : unst (stuff1 c ++ r) = (unst r).map (c :: ·) := by
  unfold stuff1
  split
  · rename_i h
    rcases h with rfl | rfl
    · exact unst_esc (.inl rfl) r
    · exact unst_esc (.inr rfl) r
  · rename_i h
    exact unst_plain h r
theorem unst_stuff (l : List Nat) : unst (stuff l) = some l := by
  induction l with
  | nil => rfl
  | cons c l ih => rw [stuff_cons, unst_stuff1, ih]; rfl
theorem map_some {α β : Type} {o : Option α} {f : α → β} {b : β} (h : o.map f = some b) : ∃ a, o = some a ∧ f a = b := by
  cases o with
  | none => cases h
  | some a => exact ⟨a, rfl, by simpa using h⟩
/-- What is read is written as it was. -/
theorem stuff_unst : ∀ (n : Nat) (l m : List Nat), l.length ≤ n → Bytes l → unst l = some m → stuff m = l ∧ Bytes m
  | _, [], m, _, _, h => by simp [unst] at h; subst h; exact ⟨rfl, bytes_nil⟩
  | 0, _ :: _, _, hn, _, _ => by simp at hn
  | n + 1, c :: r, m, hn, hb, h => by
    obtain ⟨b1, b2⟩ := hb.cons
    by_cases h1 : c = 126
    · subst h1; rw [unst_flag] at h; cases h
    · by_cases h2 : c = 125
      · subst h2
        cases r with
        | nil => rw [unst_end] at h; cases h
        | cons d r =>
          obtain ⟨b3, b4⟩ := b2.cons
          by_cases h3 : d = 94 ∨ d = 93
          · rw [unst_esc h3] at h
            obtain ⟨m', hu, rfl⟩ := map_some h
            obtain ⟨k1, k2⟩ := stuff_unst n r m' (by simp at hn; omega) b4 hu
            refine ⟨?_, bytes_cons (xor_lt b3 (by omega)) k2⟩
            rw [stuff_cons, k1]
            rcases h3 with rfl | rfl <;> rfl
          · rw [unst_odd h3] at h; cases h
      · have h3 : ¬ (c = 126 ∨ c = 125) := by omega
        rw [unst_plain h3] at h
        obtain ⟨m', hu, rfl⟩ := map_some h
        obtain ⟨k1, k2⟩ := stuff_unst n r m' (by simp at hn; omega) b2 hu
        refine ⟨?_, bytes_cons b1 k2⟩
        rw [stuff_cons, k1]
        unfold stuff1
        rw [if_neg h3]
        rfl
theorem stuff_of {l m : List Nat} (hl : Bytes l) (h : unst l = some m) : stuff m = l ∧ Bytes m := stuff_unst l.length l m (Nat.le_refl _) hl h

/-- A reading under way. -/
theorem under_some {l r r' u : List Nat} {x : Nat} (h : unst l = (unst r).map (u ++ ·)) (hr : unst r = (unst r').map (x :: ·)) : unst l = (unst r').map ((u ++ [x]) ++ ·) := by
  rw [h, hr]
  cases unst r' <;> simp
theorem under_none {l r u : List Nat} (h : unst l = (unst r).map (u ++ ·)) (hr : unst r = none) : unst l = none := by rw [h, hr]; rfl
theorem under_end {l u : List Nat} (h : unst l = (unst []).map (u ++ ·)) : unst l = some u := by rw [h]; simp [unst]

end Go.Proofs.YtnnimkailajgaaaDoor
