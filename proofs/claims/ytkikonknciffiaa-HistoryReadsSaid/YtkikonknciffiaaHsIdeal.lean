/- An ideal channel's history, plain: what was read is a beginning of what was begun to be written; entries of a channel alone. -/
import Derived.Test.YtkikonknciffiaaHsLaws
namespace Go.Proofs.Ytkikonknciffiaa
open Go.RowKit
set_option linter.unusedVariables false
set_option linter.unusedSimpArgs false

/-- The last call that began there. -/
def begP (z : Nat → En) (s d k : Nat) : Nat → Int
  | 0 => -1
  | n + 1 => if hereE z n s d = true ∧ (z n).kind = k ∧ (z n).ends = false then (n : Int) else begP z s d k n
theorem begP_lt (z : Nat → En) (s d k : Nat) : ∀ n, begP z s d k n < n := by
  intro n
  induction n with
  | zero => show (-1 : Int) < _; omega
  | succ n ih => unfold begP; split <;> omega
theorem begP_congr {z z' : Nat → En} (s d k : Nat) : ∀ n, (∀ i, i < n → z i = z' i) → begP z s d k n = begP z' s d k n := by
  intro n
  induction n with
  | zero => intro _; rfl
  | succ n ih =>
    intro h
    have e := h n (by omega)
    unfold begP hereE
    rw [e, ih (fun i hi => h i (by omega))]
/-- What an ideal history's entries are. -/
structure EnI (e : En) : Prop where
  ok : EnOk e
  side : e.side ≤ 1
  k1 : 1 ≤ e.kind
  k5 : e.kind ≤ 5
  d1 : 1 ≤ e.dlci
  d3 : e.dlci ≤ 3
  beg : e.ends = false → e.err = 0
structure Idl (z : Nat → En) (n : Nat) : Prop where
  right : ∀ i, i < n → rightR z i (z i) = true
  en : ∀ i, i < n → EnI (z i)
  whole : ∀ i, i < n → (z i).ends = true → (z i).kind = 3 → 0 ≤ begP z (z i).side (z i).dlci 3 i → (z i).n = ((z (begP z (z i).side (z i).dlci 3 i).toNat).data.size : Int)
theorem Idl.mono {z : Nat → En} {n m : Nat} (h : Idl z n) (hm : m ≤ n) : Idl z m := ⟨fun i hi => h.right i (by omega), fun i hi => h.en i (by omega), fun i hi => h.whole i (by omega)⟩
theorem right_ends {z : Nat → En} {n : Nat} {e : En} (h : rightR z n e = true) (he : e.ends = true) : endsR z n e = true := by
  unfold rightR at h
  split at h
  · cases h
  · first | exact h | (rw [he, if_pos rfl] at h; exact h)
theorem right_begins {z : Nat → En} {n : Nat} {e : En} (h : rightR z n e = true) (he : e.ends = false) : beginsR z n e = true := by
  unfold rightR at h
  split at h
  · cases h
  · rw [he] at h; exact h
theorem ends_waits {z : Nat → En} {n : Nat} {e : En} (h : endsR z n e = true) : 0 ≤ waitsP z e.side e.dlci e.kind n := by
  unfold endsR at h
  split at h
  · cases h
  · split at h
    · cases h
    · rename_i h1; omega
theorem begins_free {z : Nat → En} {n : Nat} {e : En} (h : beginsR z n e = true) (he : e.err = 0) : waitsP z e.side e.dlci e.kind n < 0 := by
  unfold beginsR at h
  rw [he] at h
  simp only [show ¬ ((0 : Int) = 2) by decide, show ¬ ((0 : Int) = 263) by decide, show ¬ ((0 : Int) = 262) by decide, if_false, decide_true, decide_false, Bool.true_and] at h
  repeat' split at h
  all_goals first | (cases h; done) | exact of_decide_eq_true h
theorem waits_beg {z : Nat → En} (s d k : Nat) : ∀ n, (∀ i, i < n → (z i).ends = false → (z i).err = 0) → waitsP z s d k n = -1 ∨ waitsP z s d k n = begP z s d k n := by
  intro n
  induction n with
  | zero => intro _; exact .inl rfl
  | succ n ih =>
    intro h
    have ih := ih (fun i hi => h i (by omega))
    unfold waitsP begP
    by_cases hc : hereE z n s d = true ∧ (z n).kind = k
    · rw [if_pos hc]
      cases he : (z n).ends with
      | true => exact .inl rfl
      | false =>
        have h0 := h n (by omega) he
        right
        simp [h0, hc.1, hc.2]
    · rw [if_neg hc, if_neg (fun x => hc ⟨x.1, x.2.1⟩)]
      exact ih
/-- What was begun to be written, and what was read. -/
def begD (z : Nat → En) (s d : Nat) : Nat → ByteArray
  | 0 => ⟨#[]⟩
  | n + 1 => begD z s d n ++ (if hereE z n s d = true ∧ (z n).kind = 3 ∧ (z n).ends = false then (z n).data else ⟨#[]⟩)
def reaD (z : Nat → En) (s d : Nat) : Nat → ByteArray
  | 0 => ⟨#[]⟩
  | n + 1 => reaD z s d n ++ (if hereE z n s d = true ∧ (z n).kind = 4 ∧ (z n).ends = true then (z n).data else ⟨#[]⟩)
theorem waitsI_succ (z : Nat → En) (s d k n : Nat) : waitsP z s d k (n + 1) = if hereE z n s d = true ∧ (z n).kind = k then (if (z n).ends then -1 else if (z n).err = 0 then (n : Int) else waitsP z s d k n) else waitsP z s d k n := rfl
theorem begD_succ (z : Nat → En) (s d n : Nat) : begD z s d (n + 1) = begD z s d n ++ (if hereE z n s d = true ∧ (z n).kind = 3 ∧ (z n).ends = false then (z n).data else ⟨#[]⟩) := rfl
theorem reaD_succ (z : Nat → En) (s d n : Nat) : reaD z s d (n + 1) = reaD z s d n ++ (if hereE z n s d = true ∧ (z n).kind = 4 ∧ (z n).ends = true then (z n).data else ⟨#[]⟩) := rfl
theorem app_nil (b : ByteArray) : b ++ (⟨#[]⟩ : ByteArray) = b := ByteArray.append_empty
theorem taken_read (z : Nat → En) (s d : Nat) : ∀ n, (takenP z s d n).1 = ((reaD z s d n).size : Int) := by
  intro n
  induction n with
  | zero => rfl
  | succ n ih =>
    unfold takenP reaD
    split
    · rw [ByteArray.size_append]
      dsimp only
      omega
    · rw [app_nil]; exact ih
theorem wrote_beg {z : Nat → En} (s d : Nat) : ∀ n, Idl z n → wroteR z s d n = begD z s d n := by
  intro n
  induction n with
  | zero => intro _; rfl
  | succ n ih =>
    intro hI
    have ih := ih (hI.mono (by omega))
    have hr := hI.right n (by omega)
    have he := hI.en n (by omega)
    have hw := hI.whole n (by omega)
    have hb := waits_beg s d 3 n (fun i hi x => (hI.en i (by omega)).beg x)
    unfold begD
    rw [← ih]
    unfold wroteR
    by_cases hh : hereE z n s d = true
    · have hh' := hh
      simp only [hereE, Bool.and_eq_true, decide_eq_true_eq] at hh'
      by_cases hk : (z n).kind = 3
      · cases hen : (z n).ends with
        | true =>
          have h0 := ends_waits (right_ends hr hen)
          rw [hh'.1, hh'.2, hk] at h0
          have hbe : waitsP z s d 3 n = begP z s d 3 n := by rcases hb with x | x; omega; exact x
          have hw := hw hen hk (by rw [hh'.1, hh'.2, ← hbe]; exact h0)
          rw [hh'.1, hh'.2, ← hbe] at hw
          have h1 : waitsP z s d 3 (n + 1) = -1 := by unfold waitsP; rw [if_pos ⟨hh, hk⟩, hen]; rfl
          have h2 : pieceE z s d n = (z (waitsP z s d 3 n).toNat).data := by
            unfold pieceE
            rw [if_pos ⟨hh, hk, hen⟩, hw, Int.toNat_natCast, ByteArray.extract_zero_size]
          rw [h1, if_neg (by omega), if_pos h0, if_neg (by simp), app_nil, app_nil, wrP, h2]
        | false =>
          have h0 := begins_free (right_begins hr hen) (he.beg hen)
          rw [hh'.1, hh'.2, hk] at h0
          have h1 : waitsP z s d 3 (n + 1) = n := by unfold waitsP; rw [if_pos ⟨hh, hk⟩, hen]; simp [he.beg hen]
          have h2 : pieceE z s d n = ⟨#[]⟩ := by unfold pieceE; rw [if_neg (by rw [hen]; simp)]
          rw [h1, if_pos (by omega), if_neg (by omega), if_pos ⟨hh, hk, rfl⟩, wrP, h2, app_nil]; rfl
      · have h1 : waitsP z s d 3 (n + 1) = waitsP z s d 3 n := by rw [waitsI_succ, if_neg (fun x => hk x.2)]
        have h2 : pieceE z s d n = ⟨#[]⟩ := by unfold pieceE; rw [if_neg (fun x => hk x.2.1)]
        rw [h1, wrP, h2, app_nil, if_neg (c := hereE z n s d = true ∧ (z n).kind = 3 ∧ (z n).ends = false) (fun x => hk x.2.1), app_nil]
    · have h1 : waitsP z s d 3 (n + 1) = waitsP z s d 3 n := by rw [waitsI_succ, if_neg (fun x => hh x.1)]
      have h2 : pieceE z s d n = ⟨#[]⟩ := by unfold pieceE; rw [if_neg (fun x => hh x.1)]
      rw [h1, wrP, h2, app_nil, if_neg (c := hereE z n s d = true ∧ (z n).kind = 3 ∧ (z n).ends = false) (fun x => hh x.1), app_nil]
theorem reads_of {z : Nat → En} {n : Nat} {e : En} (h : rightR z n e = true) (he : e.ends = true) (hk : e.kind = 4) : readsR z n (z (waitsP z e.side e.dlci e.kind n).toNat) e = true := by
  have h := right_ends h he
  unfold endsR at h
  rw [hk] at h ⊢
  split at h
  · cases h
  · split at h
    · cases h
    · simpa using h
theorem ba_eq (a b : ByteArray) (h : (a == b) = true) : a = b := by
  obtain ⟨a⟩ := a
  obtain ⟨b⟩ := b
  have h' : (a == b) = true := h
  rw [eq_of_beq h']
theorem reads_data {z : Nat → En} {n : Nat} {a e : En} (h : readsR z n a e = true) (hd : e.data ≠ ⟨#[]⟩) : (takenP z e.side e.dlci n).1 + (e.data.size : Int) ≤ ((wroteR z (1 - e.side) e.dlci n).size : Int) ∧
    (wroteR z (1 - e.side) e.dlci n).extract (takenP z e.side e.dlci n).1.toNat ((takenP z e.side e.dlci n).1.toNat + e.data.size) = e.data := by
  unfold readsR at h
  split at h
  · cases h
  · first | rw [if_neg hd] at h | skip
    simp only [Bool.and_eq_true, decide_eq_true_eq, beq_iff_eq] at h
    exact ⟨h.2.2.2.1, ba_eq _ _ h.2.2.2.2⟩
/-- All that was read is a beginning of what was begun to be written. -/
theorem read_pre {z : Nat → En} (s d : Nat) (hs : s ≤ 1) : ∀ n, Idl z n → ∃ t, begD z s d n = reaD z (1 - s) d n ++ t := by
  intro n
  induction n with
  | zero => intro _; exact ⟨⟨#[]⟩, rfl⟩
  | succ n ih =>
    intro hI
    obtain ⟨t, ht⟩ := ih (hI.mono (by omega))
    by_cases hc : hereE z n (1 - s) d = true ∧ (z n).kind = 4 ∧ (z n).ends = true
    · have hb : begD z s d (n + 1) = begD z s d n := by
        rw [begD_succ, if_neg (fun x => by have := x.2.1; omega), app_nil]
      have hr : reaD z (1 - s) d (n + 1) = reaD z (1 - s) d n ++ (z n).data := by
        rw [reaD_succ, if_pos hc]
      rw [hb, hr]
      by_cases hd : (z n).data = ⟨#[]⟩
      · rw [hd, app_nil]; exact ⟨t, ht⟩
      · obtain ⟨h1, h2⟩ := reads_data (reads_of (hI.right n (by omega)) hc.2.2 hc.2.1) hd
        have hh := hc.1
        simp only [hereE, Bool.and_eq_true, decide_eq_true_eq] at hh
        rw [hh.1, hh.2, show 1 - (1 - s) = s by omega, wrote_beg s d n (hI.mono (by omega)), taken_read, Int.toNat_natCast] at h2
        rw [hh.1, hh.2, show 1 - (1 - s) = s by omega, wrote_beg s d n (hI.mono (by omega)), taken_read] at h1
        refine ⟨(begD z s d n).extract ((reaD z (1 - s) d n).size + (z n).data.size) (begD z s d n).size, ?_⟩
        have e1 : reaD z (1 - s) d n = (begD z s d n).extract 0 (reaD z (1 - s) d n).size := by
          conv => rhs; rw [ht]
          rw [ByteArray.extract_append_eq_left rfl]
        have e2 : (begD z s d n).extract 0 (reaD z (1 - s) d n).size ++ (begD z s d n).extract (reaD z (1 - s) d n).size ((reaD z (1 - s) d n).size + (z n).data.size) = (begD z s d n).extract 0 ((reaD z (1 - s) d n).size + (z n).data.size) := by
          rw [ByteArray.extract_append_extract]
          congr 1
          omega
        rw [h2, ← e1] at e2
        rw [e2, ByteArray.extract_append_extract]
        rw [show min 0 ((reaD z (1 - s) d n).size + (z n).data.size) = 0 by omega, show max ((reaD z (1 - s) d n).size + (z n).data.size) (begD z s d n).size = (begD z s d n).size by omega, ByteArray.extract_zero_size]
    · have hr : reaD z (1 - s) d (n + 1) = reaD z (1 - s) d n := by
        rw [reaD_succ, if_neg hc, app_nil]
      rw [hr]
      unfold begD
      rw [ht]
      exact ⟨_, ByteArray.append_assoc⟩
/-- A row of which some are left out: what it tells of those that stay. -/
structure Sub (p : Nat → Bool) (z : Nat → En) (n : Nat) (y : Nat → En) (m : Nat) : Prop where
  waits : ∀ s d k, p d = true → (waitsP z s d k n = -1 ∧ waitsP y s d k m = -1) ∨ (0 ≤ waitsP z s d k n ∧ 0 ≤ waitsP y s d k m ∧ z (waitsP z s d k n).toNat = y (waitsP y s d k m).toNat)
  opened : ∀ s d, p d = true → openedP z s d n = openedP y s d m
  over : ∀ s d, p d = true → overP z s d n = overP y s d m
  taken : ∀ s d, p d = true → takenP z s d n = takenP y s d m
  wrote : ∀ s d, p d = true → wrP z s d n = wrP y s d m
  steps : 0 < m → 0 < n ∧ (y (m - 1)).step ≤ (z (n - 1)).step
theorem Sub.wroteR {p : Nat → Bool} {z y : Nat → En} {n m : Nat} (h : Sub p z n y m) (s d : Nat) (hd : p d = true) : wroteR z s d n = wroteR y s d m := by
  unfold Go.Proofs.Ytkikonknciffiaa.wroteR
  rw [h.wrote s d hd]
  rcases h.waits s d 3 hd with ⟨a, b⟩ | ⟨a, b, c⟩
  · rw [a, b]; rfl
  · rw [if_pos a, if_pos b, c]
theorem Sub.begins {p : Nat → Bool} {z y : Nat → En} {n m : Nat} (h : Sub p z n y m) (e : En) (hd : p e.dlci = true) : beginsR y m e = beginsR z n e := by
  unfold beginsR
  rw [← h.opened 0 e.dlci hd, ← h.opened 1 e.dlci hd]
  have hw : decide (waitsP y e.side e.dlci e.kind m < 0) = decide (waitsP z e.side e.dlci e.kind n < 0) := by
    rcases h.waits e.side e.dlci e.kind hd with ⟨a, b⟩ | ⟨a, b, c⟩
    · rw [a, b]
    · rw [decide_eq_false (by omega), decide_eq_false (by omega)]
  rw [hw]
theorem Sub.ends {p : Nat → Bool} {z y : Nat → En} {n m : Nat} (h : Sub p z n y m) (e : En) (hd : p e.dlci = true) : endsR y m e = endsR z n e := by
  unfold endsR readsR
  rcases h.waits e.side e.dlci e.kind hd with ⟨a, b⟩ | ⟨a, b, c⟩
  · rw [a, b]
    rw [if_pos (show ((-1 : Int) < 0 ∨ (y (-1 : Int).toNat).id ≠ e.id) from .inl (by decide)), if_pos (show ((-1 : Int) < 0 ∨ (z (-1 : Int).toNat).id ≠ e.id) from .inl (by decide))]
  · have t1 : (waitsP y e.side e.dlci e.kind m < 0 ∨ (y (waitsP y e.side e.dlci e.kind m).toNat).id ≠ e.id) = (waitsP z e.side e.dlci e.kind n < 0 ∨ (z (waitsP z e.side e.dlci e.kind n).toNat).id ≠ e.id) := by
      rw [c]
      apply propext
      constructor
      · rintro (x | x)
        · omega
        · exact .inr x
      · rintro (x | x)
        · omega
        · exact .inr x
    simp only [t1]
    rw [← c, ← h.over e.side e.dlci hd, ← h.opened (1 - e.side) e.dlci hd, ← h.taken (1 - e.side) e.dlci hd, ← h.taken e.side e.dlci hd, ← h.wroteR e.side e.dlci hd, ← h.wroteR (1 - e.side) e.dlci hd]
theorem Sub.right {p : Nat → Bool} {z y : Nat → En} {n m : Nat} (h : Sub p z n y m) (e : En) (hd : p e.dlci = true) (hr : rightR z n e = true) : rightR y m e = true := by
  unfold rightR at hr ⊢
  rw [h.begins e hd, h.ends e hd]
  split at hr
  · cases hr
  · rename_i h1
    rw [if_neg]
    · exact hr
    · rintro (x | ⟨x, x2⟩)
      · exact h1 (.inl x)
      · obtain ⟨h2, h3⟩ := h.steps x
        exact h1 (.inr ⟨h2, by omega⟩)
theorem right_step {z : Nat → En} {n : Nat} {e : En} (h : rightR z n e = true) (h0 : 0 < n) : (z (n - 1)).step ≤ e.step := by
  unfold rightR at h
  split at h
  · cases h
  · rename_i h1
    exact Int.not_lt.1 (fun x => h1 (.inr ⟨h0, x⟩))
theorem Sub.zero (p : Nat → Bool) (z y : Nat → En) : Sub p z 0 y 0 := ⟨fun _ _ _ _ => .inl ⟨rfl, rfl⟩, fun _ _ _ => rfl, fun _ _ _ => rfl, fun _ _ _ => rfl, fun _ _ _ => rfl, fun h => absurd h (by decide)⟩
theorem Sub.skip {p : Nat → Bool} {z y : Nat → En} {n m : Nat} (h : Sub p z n y m) (hd : p (z n).dlci = false) (hr : rightR z n (z n) = true) : Sub p z (n + 1) y m := by
  have hh : ∀ s d, p d = true → hereE z n s d = false := fun s d x => by
    unfold hereE
    rw [decide_eq_false (p := (z n).dlci = d), Bool.and_false]
    rintro rfl
    rw [hd] at x; cases x
  refine ⟨fun s d k x => ?_, fun s d x => ?_, fun s d x => ?_, fun s d x => ?_, fun s d x => ?_, fun x => ?_⟩
  · rw [waitsI_succ, hh s d x, if_neg (by simp)]; exact h.waits s d k x
  · rw [openedP, hh s d x, Bool.false_and, Bool.or_false]; exact h.opened s d x
  · rw [overP, hh s d x, Bool.false_and, Bool.or_false]; exact h.over s d x
  · rw [takenP, hh s d x, if_neg (by simp)]; exact h.taken s d x
  · have : pieceE z s d n = ⟨#[]⟩ := by unfold pieceE; rw [hh s d x, if_neg (by simp)]
    rw [wrP, this, app_nil]; exact h.wrote s d x
  · obtain ⟨h1, h2⟩ := h.steps x
    exact ⟨by omega, Int.le_trans h2 (right_step hr h1)⟩
theorem Sub.take {p : Nat → Bool} {z y : Nat → En} {n m : Nat} (h : Sub p z n y m) (hy : y m = z n) (hr : rightR z n (z n) = true) : Sub p z (n + 1) y (m + 1) := by
  have hh : ∀ s d, hereE y m s d = hereE z n s d := fun s d => by unfold hereE; rw [hy]
  refine ⟨fun s d k x => ?_, fun s d x => ?_, fun s d x => ?_, fun s d x => ?_, fun s d x => ?_, fun x => ?_⟩
  · rw [waitsI_succ, waitsI_succ, hh, hy]
    split
    · split
      · exact .inl ⟨rfl, rfl⟩
      · split
        · exact .inr ⟨by omega, by omega, by simpa using hy.symm⟩
        · exact h.waits s d k x
    · exact h.waits s d k x
  · rw [openedP, openedP, hh, hy, h.opened s d x]
  · rw [overP, overP, hh, hy, h.over s d x]
  · rw [takenP, takenP, hh, hy, h.taken s d x]
  · rw [wrP, wrP, h.wrote s d x]
    congr 1
    unfold pieceE
    rw [hh, hy]
    split
    · rename_i hc
      obtain ⟨h1, h2, h3⟩ := hc
      simp only [hereE, Bool.and_eq_true, decide_eq_true_eq] at h1
      have h4 := ends_waits (right_ends hr h3)
      rw [h1.1, h1.2, h2] at h4
      rcases h.waits s d 3 x with ⟨a, b⟩ | ⟨a, b, c⟩
      · omega
      · rw [c]
    · rfl
  · exact ⟨by omega, by simp [hy]⟩
/-- Other bytes, as many, are not right. -/
theorem read_odd {z : Nat → En} {n : Nat} {e : En} (h : rightR z n e = true) (he : e.ends = true) (hk : e.kind = 4) (hd : e.data ≠ ⟨#[]⟩) (y : ByteArray) (hy : y ≠ e.data) (hs : y.size = e.data.size) : rightR z n { e with data := y } = false := by
  have h2 := (reads_data (reads_of h he hk) hd).2
  have hyn : y ≠ ⟨#[]⟩ := by
    intro x
    rw [x] at hs
    apply hd
    have h0 : e.data.size = 0 := hs.symm
    exact ByteArray.size_eq_zero_iff.1 h0
  cases hx : rightR z n { e with data := y } with
  | false => rfl
  | true =>
    exfalso
    have h3 := (reads_data (reads_of hx he hk) hyn).2
    dsimp only at h3
    rw [hs, h2] at h3
    exact hy h3.symm
end Go.Proofs.Ytkikonknciffiaa
