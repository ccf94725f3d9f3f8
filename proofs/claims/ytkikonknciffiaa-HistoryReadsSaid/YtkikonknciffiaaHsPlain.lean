/- Histories, plain: what a judge keeps, what the document asks, and that the two are one. -/
import Derived.Test.YtkikonknciffiaaBase
namespace Go.Proofs.Ytkikonknciffiaa
open Go.RowKit
set_option linter.unusedVariables false
set_option linter.unusedSimpArgs false

/-- An entry. -/
structure En where
  step : Int
  side : Nat
  kind : Nat
  dlci : Nat
  ends : Bool
  id : Int
  n : Int
  data : ByteArray
  err : Int
def zE : En := ⟨0, 0, 0, 0, false, 0, 0, ⟨#[]⟩, 0⟩
/-- What is kept of a place. -/
structure Rc where
  waits : Nat → En
  opened : Bool
  over : Bool
  readOver : Bool
  wrote : ByteArray
  read : Int
def zR : Rc := ⟨fun _ => zE, false, false, false, ⟨#[]⟩, 0⟩
/-- A judge. -/
structure JS where
  last : Int
  some : Bool
  recs : Nat → Nat → Rc
def zJ : JS := ⟨0, false, fun _ _ => zR⟩
def known (k : Nat) : Bool := decide (1 ≤ k) && decide (k ≤ 5)
def there (d : Nat) : Bool := decide (0 < d) && decide (d ≤ 63)
def endedE (e : Int) : Bool := decide (e = 260) || decide (e = 261)
def JS.upd (j : JS) (s d : Nat) (r : Rc) : JS := ⟨j.last, j.some, fun s' d' => if s' = s ∧ d' = d then r else j.recs s' d'⟩
def Rc.wait (r : Rc) (k : Nat) (e : En) : Rc := { r with waits := fun k' => if k' = k then e else r.waits k' }
def waiting (r : Rc) (k : Nat) : Bool := decide ((r.waits k).kind ≠ 0)
/-- begins. -/
def beginsJ (j : JS) (e : En) : JS × Bool :=
  if e.id ≠ e.step then (j, false)
  else if e.err = 2 then (j, !known e.kind)
  else if e.err = 263 then (j, known e.kind && (!there e.dlci || decide (e.dlci = 62)))
  else if known e.kind = false ∨ there e.dlci = false then (j, false)
  else if e.err = 262 then (j, waiting (j.recs e.side e.dlci) e.kind || (decide (e.kind = 1) && ((j.recs e.side e.dlci).opened || (j.recs (1 - e.side) e.dlci).opened)))
  else if e.err ≠ 0 ∨ waiting (j.recs e.side e.dlci) e.kind = true then (j, false)
  else (j.upd e.side e.dlci { (j.recs e.side e.dlci).wait e.kind e with opened := (j.recs e.side e.dlci).opened || decide (e.kind = 1), over := (j.recs e.side e.dlci).over || decide (e.kind = 5) }, true)
/-- meets, wrote, took, closed. -/
def meetsJ (j : JS) (s d : Nat) (e : En) : JS × Bool :=
  if e.n ≠ 0 ∨ e.data ≠ ⟨#[]⟩ then (j, false)
  else if endedE e.err = true then (j.upd s d { j.recs s d with over := true }, true)
  else if e.kind = 2 ∧ e.err = 262 then (j, true)
  else (j, decide (e.err = 0) && (!(j.recs s d).over && (decide (e.kind = 1) || (j.recs (1 - s) d).opened)))
def wroteJ (j : JS) (s d : Nat) (a e : En) : JS × Bool :=
  if e.data ≠ ⟨#[]⟩ ∨ e.n < 0 ∨ (a.data.size : Int) < e.n ∨ ((j.recs s d).wrote.size : Int) + e.n < (j.recs (1 - s) d).read then (j, false)
  else if endedE e.err = true then (j.upd s d { j.recs s d with over := true, wrote := (j.recs s d).wrote ++ a.data.extract 0 e.n.toNat }, true)
  else if e.err ≠ 0 ∨ (j.recs s d).over = true ∨ e.n ≠ (a.data.size : Int) then (j, false)
  else (j.upd s d { j.recs s d with wrote := (j.recs s d).wrote ++ a.data.extract 0 e.n.toNat }, true)
def hasPre (s p : ByteArray) : Bool := decide (p.size ≤ s.size) && (s.extract 0 p.size == p)
def allJ (j : JS) (s d : Nat) : ByteArray := (j.recs (1 - s) d).wrote ++ ((j.recs (1 - s) d).waits 3).data
def tookJ (j : JS) (s d : Nat) (a e : En) : JS × Bool :=
  if e.n ≠ 0 then (j, false)
  else if endedE e.err = true ∧ e.data = ⟨#[]⟩ then (j.upd s d { j.recs s d with readOver := true }, true)
  else if e.err ≠ 0 ∨ max 0 a.n < (e.data.size : Int) then (j, false)
  else if e.data = ⟨#[]⟩ then (j, decide (a.n < 1))
  else if (j.recs s d).readOver = true ∨ hasPre ((allJ j s d).extract (j.recs s d).read.toNat (allJ j s d).size) e.data = false then (j, false)
  else (j.upd s d { j.recs s d with read := (j.recs s d).read + (e.data.size : Int) }, true)
def closedJ (j : JS) (e : En) : JS × Bool := (j, decide (e.n = 0) && (decide (e.data = ⟨#[]⟩) && (decide (e.err = 0) || decide (e.err = 261))))
def howJ (j : JS) (s d : Nat) (a e : En) : JS × Bool :=
  if e.kind = 3 then wroteJ j s d a e else if e.kind = 4 then tookJ j s d a e else if e.kind = 5 then closedJ j e else meetsJ j s d e
def endsJ (j : JS) (e : En) : JS × Bool :=
  if known e.kind = false ∨ there e.dlci = false then (j, false)
  else if waiting (j.recs e.side e.dlci) e.kind = false ∨ ((j.recs e.side e.dlci).waits e.kind).id ≠ e.id then (j, false)
  else
    let x := howJ j e.side e.dlci ((j.recs e.side e.dlci).waits e.kind) e
    if x.2 = false then (x.1, false) else (x.1.upd e.side e.dlci ((x.1.recs e.side e.dlci).wait e.kind zE), true)
def entryJ (j : JS) (e : En) : JS × Bool :=
  if 1 < e.side ∨ (j.some = true ∧ e.step < j.last) then (j, false)
  else
    let x := if e.ends then endsJ j e else beginsJ j e
    if x.2 = false then (x.1, false) else (⟨e.step, true, x.1.recs⟩, true)

/-! The document's: over the first n entries of z. -/
def hereE (z : Nat → En) (i s d : Nat) : Bool := decide ((z i).side = s) && decide ((z i).dlci = d)
def waitsP (z : Nat → En) (s d k : Nat) : Nat → Int
  | 0 => -1
  | n + 1 => if hereE z n s d = true ∧ (z n).kind = k then (if (z n).ends then -1 else if (z n).err = 0 then (n : Int) else waitsP z s d k n) else waitsP z s d k n
def openedP (z : Nat → En) (s d : Nat) : Nat → Bool
  | 0 => false
  | n + 1 => openedP z s d n || (hereE z n s d && (decide ((z n).kind = 1) && (!(z n).ends && decide ((z n).err = 0))))
def overE (e : En) : Bool := (decide (e.kind = 5) && (!e.ends && decide (e.err = 0))) || (decide (e.kind ≤ 3) && (e.ends && endedE e.err))
def overP (z : Nat → En) (s d : Nat) : Nat → Bool
  | 0 => false
  | n + 1 => overP z s d n || (hereE z n s d && overE (z n))
def pieceE (z : Nat → En) (s d n : Nat) : ByteArray := if hereE z n s d = true ∧ (z n).kind = 3 ∧ (z n).ends = true then (z (waitsP z s d 3 n).toNat).data.extract 0 (z n).n.toNat else ⟨#[]⟩
def wrP (z : Nat → En) (s d : Nat) : Nat → ByteArray
  | 0 => ⟨#[]⟩
  | n + 1 => wrP z s d n ++ pieceE z s d n
def wroteR (z : Nat → En) (s d n : Nat) : ByteArray := wrP z s d n ++ (if 0 ≤ waitsP z s d 3 n then (z (waitsP z s d 3 n).toNat).data else ⟨#[]⟩)
def takenP (z : Nat → En) (s d : Nat) : Nat → Int × Bool
  | 0 => (0, false)
  | n + 1 => if hereE z n s d = true ∧ (z n).kind = 4 ∧ (z n).ends = true then ((takenP z s d n).1 + ((z n).data.size : Int), (takenP z s d n).2 || endedE (z n).err) else takenP z s d n
def beginsR (z : Nat → En) (n : Nat) (e : En) : Bool :=
  if e.id ≠ e.step then false
  else if known e.kind = false then decide (e.err = 2)
  else if e.err = 263 then decide (e.dlci = 0) || (decide (e.dlci = 62) || decide (63 < e.dlci))
  else if e.dlci = 0 ∨ 63 < e.dlci then false
  else if e.err = 262 then !decide (waitsP z e.side e.dlci e.kind n < 0) || (decide (e.kind = 1) && (openedP z 0 e.dlci n || openedP z 1 e.dlci n))
  else decide (e.err = 0) && decide (waitsP z e.side e.dlci e.kind n < 0)
def readsR (z : Nat → En) (n : Nat) (a e : En) : Bool :=
  if e.n ≠ 0 then false
  else if e.data = ⟨#[]⟩ then endedE e.err || (decide (e.err = 0) && decide (a.n < 1))
  else decide (e.err = 0) && (decide ((e.data.size : Int) ≤ a.n) && (!(takenP z e.side e.dlci n).2 && (decide ((takenP z e.side e.dlci n).1 + (e.data.size : Int) ≤ ((wroteR z (1 - e.side) e.dlci n).size : Int)) &&
    ((wroteR z (1 - e.side) e.dlci n).extract (takenP z e.side e.dlci n).1.toNat ((takenP z e.side e.dlci n).1.toNat + e.data.size) == e.data))))
def noneE (e : En) : Bool := decide (e.n = 0) && decide (e.data = ⟨#[]⟩)
def endsR (z : Nat → En) (n : Nat) (e : En) : Bool :=
  if known e.kind = false ∨ e.dlci = 0 ∨ 63 < e.dlci then false
  else if waitsP z e.side e.dlci e.kind n < 0 ∨ (z (waitsP z e.side e.dlci e.kind n).toNat).id ≠ e.id then false
  else if e.kind = 1 then noneE e && (endedE e.err || (decide (e.err = 0) && !overP z e.side e.dlci n))
  else if e.kind = 2 then noneE e && ((endedE e.err || decide (e.err = 262)) || (decide (e.err = 0) && (!overP z e.side e.dlci n && openedP z (1 - e.side) e.dlci n)))
  else if e.kind = 3 then
    (if IntKind.i64.wrap (((wroteR z e.side e.dlci n).size : Int) - ((z (waitsP z e.side e.dlci e.kind n).toNat).data.size : Int) + e.n) < (takenP z (1 - e.side) e.dlci n).1 then false
     else decide (e.data = ⟨#[]⟩) && ((endedE e.err && (decide (0 ≤ e.n) && decide (e.n ≤ ((z (waitsP z e.side e.dlci e.kind n).toNat).data.size : Int)))) || (decide (e.err = 0) && (!overP z e.side e.dlci n && decide (e.n = ((z (waitsP z e.side e.dlci e.kind n).toNat).data.size : Int))))))
  else if e.kind = 4 then readsR z n (z (waitsP z e.side e.dlci e.kind n).toNat) e
  else noneE e && (decide (e.err = 0) || decide (e.err = 261))
def rightR (z : Nat → En) (n : Nat) (e : En) : Bool :=
  if 1 < e.side ∨ (0 < n ∧ e.step < (z (n - 1)).step) then false
  else if e.ends then endsR z n e else beginsR z n e

theorem waitsP_spec (z : Nat → En) (s d k : Nat) : ∀ n, waitsP z s d k n = -1 ∨ ∃ i : Nat, i < n ∧ waitsP z s d k n = (i : Int) ∧ (z i).side = s ∧ (z i).dlci = d ∧ (z i).kind = k ∧ (z i).ends = false ∧ (z i).err = 0 := by
  intro n
  induction n with
  | zero => exact .inl rfl
  | succ n ih =>
    have lift : (waitsP z s d k n = -1 ∨ ∃ i : Nat, i < n ∧ waitsP z s d k n = (i : Int) ∧ (z i).side = s ∧ (z i).dlci = d ∧ (z i).kind = k ∧ (z i).ends = false ∧ (z i).err = 0) → (waitsP z s d k n = -1 ∨ ∃ i : Nat, i < n + 1 ∧ waitsP z s d k n = (i : Int) ∧ (z i).side = s ∧ (z i).dlci = d ∧ (z i).kind = k ∧ (z i).ends = false ∧ (z i).err = 0) := by
      rintro (h | ⟨i, h, r⟩)
      · exact .inl h
      · exact .inr ⟨i, by omega, r⟩
    unfold waitsP
    split
    · rename_i h
      obtain ⟨h1, h2⟩ := h
      simp only [hereE, Bool.and_eq_true, decide_eq_true_eq] at h1
      cases he : (z n).ends with
      | true => exact .inl rfl
      | false =>
        simp only [Bool.false_eq_true, if_false]
        split
        · rename_i h3
          exact .inr ⟨n, by omega, rfl, h1.1, h1.2, h2, he, h3⟩
        · exact lift ih
    · exact lift ih
theorem waitsP_ge (z : Nat → En) (s d k n : Nat) : -1 ≤ waitsP z s d k n := by
  rcases waitsP_spec z s d k n with h | ⟨i, _, h, _⟩ <;> omega
theorem waitsP_lt (z : Nat → En) (s d k n : Nat) : waitsP z s d k n < n ∨ waitsP z s d k n = -1 := by
  rcases waitsP_spec z s d k n with h | ⟨i, _, h, _⟩ <;> omega
/-- Only what is ahead counts. -/
theorem waitsP_congr {z z' : Nat → En} (s d k : Nat) : ∀ n, (∀ i, i < n → z i = z' i) → waitsP z s d k n = waitsP z' s d k n := by
  intro n
  induction n with
  | zero => intro _; rfl
  | succ n ih =>
    intro h
    have e := h n (by omega)
    unfold waitsP hereE
    rw [e, ih (fun i hi => h i (by omega))]
theorem openedP_congr {z z' : Nat → En} (s d : Nat) : ∀ n, (∀ i, i < n → z i = z' i) → openedP z s d n = openedP z' s d n := by
  intro n
  induction n with
  | zero => intro _; rfl
  | succ n ih =>
    intro h
    have e := h n (by omega)
    unfold openedP hereE
    rw [e, ih (fun i hi => h i (by omega))]
theorem overP_congr {z z' : Nat → En} (s d : Nat) : ∀ n, (∀ i, i < n → z i = z' i) → overP z s d n = overP z' s d n := by
  intro n
  induction n with
  | zero => intro _; rfl
  | succ n ih =>
    intro h
    have e := h n (by omega)
    unfold overP hereE
    rw [e, ih (fun i hi => h i (by omega))]
theorem takenP_congr {z z' : Nat → En} (s d : Nat) : ∀ n, (∀ i, i < n → z i = z' i) → takenP z s d n = takenP z' s d n := by
  intro n
  induction n with
  | zero => intro _; rfl
  | succ n ih =>
    intro h
    have e := h n (by omega)
    unfold takenP hereE
    rw [e, ih (fun i hi => h i (by omega))]
theorem at_congr {z z' : Nat → En} (s d k n : Nat) (h : ∀ i, i < n → z i = z' i) (h0 : 0 ≤ waitsP z s d k n) : z (waitsP z s d k n).toNat = z' (waitsP z' s d k n).toNat := by
  rw [← waitsP_congr s d k n h]
  exact h _ (by have := waitsP_lt z s d k n; omega)
/-- What the document's functions take for granted: each Write that ended was asked, and wrote no more than that; and what is short. -/
structure Wf (z : Nat → En) (n : Nat) : Prop where
  asked : ∀ i, i < n → (z i).kind = 3 → (z i).ends = true → 0 ≤ waitsP z (z i).side (z i).dlci 3 i ∧ 0 ≤ (z i).n ∧ (z i).n ≤ ((z (waitsP z (z i).side (z i).dlci 3 i).toNat).data.size : Int)
  small : ∀ i, i < n → (z i).data.size ≤ 60
theorem Wf.mono {z : Nat → En} {n m : Nat} (h : Wf z n) (hm : m ≤ n) : Wf z m := ⟨fun i hi => h.asked i (by omega), fun i hi => h.small i (by omega)⟩
theorem Wf.congr {z z' : Nat → En} {n : Nat} (h : Wf z n) (e : ∀ i, i < n → z i = z' i) : Wf z' n := by
  refine ⟨fun i hi hk he => ?_, fun i hi => by rw [← e i hi]; exact h.small i hi⟩
  rw [← e i hi] at hk he ⊢
  obtain ⟨h1, h2, h3⟩ := h.asked i hi hk he
  have e' : ∀ j, j < i → z j = z' j := fun j hj => e j (by omega)
  rw [← at_congr _ _ _ _ e' h1, ← waitsP_congr _ _ _ _ e']
  exact ⟨h1, h2, h3⟩
theorem wrP_congr {z z' : Nat → En} (s d : Nat) : ∀ n, Wf z n → (∀ i, i < n → z i = z' i) → wrP z s d n = wrP z' s d n := by
  intro n
  induction n with
  | zero => intro _ _; rfl
  | succ n ih =>
    intro hw h
    have e := h n (by omega)
    have h' : ∀ j, j < n → z j = z' j := fun j hj => h j (by omega)
    unfold wrP
    rw [ih (hw.mono (by omega)) h']
    congr 1
    unfold pieceE
    by_cases hc : hereE z n s d = true ∧ (z n).kind = 3 ∧ (z n).ends = true
    · have hc' : hereE z' n s d = true ∧ (z' n).kind = 3 ∧ (z' n).ends = true := by unfold hereE at hc ⊢; rw [← e]; exact hc
      rw [if_pos hc, if_pos hc']
      obtain ⟨h1, h2, h3⟩ := hc
      simp only [hereE, Bool.and_eq_true, decide_eq_true_eq] at h1
      have h4 := (hw.asked n (by omega) h2 h3).1
      rw [h1.1, h1.2] at h4
      rw [at_congr s d 3 n h' h4, e]
    · have hc' : ¬ (hereE z' n s d = true ∧ (z' n).kind = 3 ∧ (z' n).ends = true) := by unfold hereE at hc ⊢; rw [← e]; exact hc
      rw [if_neg hc, if_neg hc']
theorem piece_size {z : Nat → En} {n : Nat} (s d : Nat) (hw : Wf z (n + 1)) : (pieceE z s d n).size ≤ 60 := by
  unfold pieceE
  split
  · rename_i h
    obtain ⟨h1, h2, h3⟩ := h
    simp only [hereE, Bool.and_eq_true, decide_eq_true_eq] at h1
    have h4 := (hw.asked n (by omega) h2 h3).1
    rw [h1.1, h1.2] at h4
    have h5 := hw.small (waitsP z s d 3 n).toNat (by have := waitsP_lt z s d 3 n; omega)
    rw [ByteArray.size_extract]
    omega
  · decide
theorem wrP_size {z : Nat → En} (s d : Nat) : ∀ n, Wf z n → (wrP z s d n).size ≤ 60 * n := by
  intro n
  induction n with
  | zero => intro _; exact Nat.le_refl _
  | succ n ih =>
    intro hw
    have h1 := ih (hw.mono (by omega))
    have h2 := piece_size s d hw
    unfold wrP
    rw [ByteArray.size_append]
    omega
theorem wroteR_size {z : Nat → En} (s d n : Nat) (hw : Wf z n) : (wroteR z s d n).size ≤ 60 * n + 60 := by
  have h1 := wrP_size s d n hw
  unfold wroteR
  rw [ByteArray.size_append]
  split
  · have h5 := hw.small (waitsP z s d 3 n).toNat (by have := waitsP_lt z s d 3 n; omega)
    omega
  · have : (⟨#[]⟩ : ByteArray).size = 0 := rfl
    omega
theorem takenP_ge (z : Nat → En) (s d : Nat) : ∀ n, 0 ≤ (takenP z s d n).1 := by
  intro n
  induction n with
  | zero => exact Int.le_refl _
  | succ n ih =>
    unfold takenP
    split
    · dsimp only; omega
    · exact ih
theorem takenP_le {z : Nat → En} (s d : Nat) : ∀ n, Wf z n → (takenP z s d n).1 ≤ 60 * n := by
  intro n
  induction n with
  | zero => intro _; exact Int.le_refl _
  | succ n ih =>
    intro hw
    have h1 := ih (hw.mono (by omega))
    have h2 := hw.small n (by omega)
    unfold takenP
    split
    · dsimp only; omega
    · omega
end Go.Proofs.Ytkikonknciffiaa
