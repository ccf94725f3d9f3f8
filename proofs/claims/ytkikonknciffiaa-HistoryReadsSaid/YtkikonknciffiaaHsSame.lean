/- A judge's step and the document's word are one. -/
import Derived.Test.YtkikonknciffiaaHsPlain
namespace Go.Proofs.Ytkikonknciffiaa
open Go.RowKit
set_option linter.unusedVariables false
set_option linter.unusedSimpArgs false

structure RelR (r : Rc) (z : Nat → En) (n s d : Nat) : Prop where
  waits : ∀ k, (waitsP z s d k n = -1 ∧ r.waits k = zE) ∨ (∃ i : Nat, i < n ∧ waitsP z s d k n = (i : Int) ∧ r.waits k = z i ∧ 1 ≤ k ∧ k ≤ 5) ∨ ((k = 0 ∨ 5 < k) ∧ r.waits k = zE)
  opened : r.opened = openedP z s d n
  over : r.over = overP z s d n
  wrote : r.wrote = wrP z s d n
  read : r.read = (takenP z s d n).1
  readOver : r.readOver = (takenP z s d n).2
/-- A judge keeps what the history says. -/
structure Rel (js : JS) (z : Nat → En) (n : Nat) : Prop where
  recs : ∀ s d, RelR (js.recs s d) z n s d
  some : js.some = decide (0 < n)
  last : 0 < n → js.last = (z (n - 1)).step
  room : ∀ s d, s ≤ 1 → (takenP z s d n).1 ≤ ((wroteR z (1 - s) d n).size : Int)
theorem rel_zero (z : Nat → En) : Rel zJ z 0 := ⟨fun s d => ⟨fun k => .inl ⟨rfl, rfl⟩, rfl, rfl, rfl, rfl, rfl⟩, rfl, fun h => absurd h (by decide), fun s d _ => Int.le_refl _⟩
theorem ba_empty (a : ByteArray) : a ++ (⟨#[]⟩ : ByteArray) = a := ByteArray.append_empty
/-- Of another place, or with no effect: nothing turns. -/
def dull (z : Nat → En) (n s d : Nat) : Prop := hereE z n s d = false ∨ ((z n).ends = false ∧ (z n).err ≠ 0)
theorem dull_all {z : Nat → En} {n s d : Nat} (h : dull z n s d) : (∀ k, waitsP z s d k (n + 1) = waitsP z s d k n) ∧ openedP z s d (n + 1) = openedP z s d n ∧ overP z s d (n + 1) = overP z s d n ∧ wrP z s d (n + 1) = wrP z s d n ∧ takenP z s d (n + 1) = takenP z s d n := by
  rcases h with h | ⟨h1, h2⟩
  · refine ⟨fun k => ?_, ?_, ?_, ?_, ?_⟩
    · show (if hereE z n s d = true ∧ (z n).kind = k then _ else waitsP z s d k n) = _
      rw [if_neg (by rw [h]; simp)]
    · show (openedP z s d n || _) = _
      rw [h]; simp
    · show (overP z s d n || _) = _
      rw [h]; simp
    · show wrP z s d n ++ pieceE z s d n = _
      unfold pieceE
      rw [if_neg (by rw [h]; simp), ba_empty]
    · show (if hereE z n s d = true ∧ _ then _ else takenP z s d n) = _
      rw [if_neg (by rw [h]; simp)]
  · refine ⟨fun k => ?_, ?_, ?_, ?_, ?_⟩
    · show (if hereE z n s d = true ∧ (z n).kind = k then (if (z n).ends then -1 else if (z n).err = 0 then (n : Int) else waitsP z s d k n) else waitsP z s d k n) = _
      rw [h1, if_neg h2]; simp
    · show (openedP z s d n || _) = _
      simp [h2]
    · show (overP z s d n || (hereE z n s d && overE (z n))) = _
      unfold overE
      simp [h1, h2]
    · show wrP z s d n ++ pieceE z s d n = _
      unfold pieceE
      rw [if_neg (by rw [h1]; simp), ba_empty]
    · show (if hereE z n s d = true ∧ (z n).kind = 4 ∧ (z n).ends = true then _ else takenP z s d n) = _
      rw [if_neg (by rw [h1]; simp)]
theorem RelR.dull {r : Rc} {z : Nat → En} {n s d : Nat} (h : RelR r z n s d) (hd : dull z n s d) : RelR r z (n + 1) s d := by
  obtain ⟨h1, h2, h3, h4, h5⟩ := dull_all hd
  refine ⟨fun k => ?_, by rw [h2]; exact h.opened, by rw [h3]; exact h.over, by rw [h4]; exact h.wrote, by rw [h5]; exact h.read, by rw [h5]; exact h.readOver⟩
  rw [h1]
  rcases h.waits k with a | ⟨i, a, b⟩ | a
  · exact .inl a
  · exact .inr (.inl ⟨i, by omega, b⟩)
  · exact .inr (.inr a)
theorem wroteR_dull {z : Nat → En} {n s d : Nat} (hd : dull z n s d) : wroteR z s d (n + 1) = wroteR z s d n := by
  obtain ⟨h1, h2, h3, h4, h5⟩ := dull_all hd
  unfold wroteR
  rw [h1, h4]
theorem wait_spec {r : Rc} {z : Nat → En} {n s d k : Nat} (h : RelR r z n s d) (h1 : 1 ≤ k) (h5 : k ≤ 5) :
    (waitsP z s d k n = -1 ∧ r.waits k = zE ∧ waiting r k = false) ∨ ∃ i : Nat, i < n ∧ waitsP z s d k n = (i : Int) ∧ r.waits k = z i ∧ (z i).kind = k ∧ waiting r k = true := by
  rcases h.waits k with ⟨a, b⟩ | ⟨i, a, b, c, _⟩ | ⟨a, _⟩
  · exact .inl ⟨a, b, by unfold waiting; rw [b]; rfl⟩
  · rcases waitsP_spec z s d k n with e | ⟨i', _, e, _, _, e4, _⟩
    · omega
    · have : i = i' := by omega
      subst this
      exact .inr ⟨i, a, b, c, e4, by unfold waiting; rw [c, e4]; simp; omega⟩
  · omega
theorem known_iff (k : Nat) : known k = true ↔ 1 ≤ k ∧ k ≤ 5 := by unfold known; simp
theorem there_iff (d : Nat) : there d = true ↔ 0 < d ∧ d ≤ 63 := by unfold there; simp
/-- What a judge keeps of all, behind an entry that turns at most its own place. -/
theorem rel_next {js js' : JS} {z : Nat → En} {n : Nat} (h : Rel js z n) (ho : ∀ s d, ¬ (s = (z n).side ∧ d = (z n).dlci) → js'.recs s d = js.recs s d) (hr : RelR (js'.recs (z n).side (z n).dlci) z (n + 1) (z n).side (z n).dlci)
    (hm : ∀ s d, s ≤ 1 → (takenP z s d (n + 1)).1 ≤ ((wroteR z (1 - s) d (n + 1)).size : Int)) : Rel ⟨(z n).step, true, js'.recs⟩ z (n + 1) := by
  refine ⟨fun s d => ?_, by simp, fun _ => rfl, hm⟩
  by_cases hc : s = (z n).side ∧ d = (z n).dlci
  · obtain ⟨rfl, rfl⟩ := hc
    exact hr
  · show RelR (js'.recs s d) z (n + 1) s d
    rw [ho s d hc]
    exact (h.recs s d).dull (.inl (by unfold hereE; simp only [Bool.and_eq_false_iff, decide_eq_false_iff_not]; by_cases e : (z n).side = s; exact .inr (fun e2 => hc ⟨e.symm, e2.symm⟩); exact .inl e))
theorem rel_dull {js : JS} {z : Nat → En} {n : Nat} (h : Rel js z n) (h1 : (z n).ends = false) (h2 : (z n).err ≠ 0) : Rel ⟨(z n).step, true, js.recs⟩ z (n + 1) := by
  have hd : ∀ s d, dull z n s d := fun s d => .inr ⟨h1, h2⟩
  refine rel_next h (fun _ _ _ => rfl) ((h.recs _ _).dull (hd _ _)) (fun s d hs => ?_)
  rw [wroteR_dull (hd _ _), (dull_all (hd s d)).2.2.2.2]
  exact h.room s d hs
theorem wf_next {z : Nat → En} {n : Nat} (hw : Wf z n) (hsm : (z n).data.size ≤ 60) (h : (z n).kind = 3 → (z n).ends = true → 0 ≤ waitsP z (z n).side (z n).dlci 3 n ∧ 0 ≤ (z n).n ∧ (z n).n ≤ ((z (waitsP z (z n).side (z n).dlci 3 n).toNat).data.size : Int)) : Wf z (n + 1) := by
  refine ⟨fun i hi hk he => ?_, fun i hi => ?_⟩
  · by_cases e : i = n
    · subst e; exact h hk he
    · exact hw.asked i (by omega) hk he
  · by_cases e : i = n
    · subst e; exact hsm
    · exact hw.small i (by omega)
/-- begins. -/
theorem begins_ok {js : JS} {z : Nat → En} {n : Nat} (h : Rel js z n) (hw : Wf z n) (hsm : (z n).data.size ≤ 60) (hs : (z n).side ≤ 1) (he : (z n).ends = false) :
    (beginsJ js (z n)).2 = beginsR z n (z n) ∧ (beginsR z n (z n) = false → (beginsJ js (z n)).1 = js) ∧ (beginsR z n (z n) = true → Rel ⟨(z n).step, true, (beginsJ js (z n)).1.recs⟩ z (n + 1)) := by
  obtain ⟨e, hze⟩ : ∃ e, z n = e := ⟨_, rfl⟩
  have hd2 : e.err ≠ 0 → Rel ⟨(z n).step, true, js.recs⟩ z (n + 1) := fun h2 => rel_dull h he (by rw [hze]; exact h2)
  rw [hze] at hs he hsm hd2 ⊢
  by_cases hid : e.id ≠ e.step
  · have hJ : beginsJ js e = (js, false) := by unfold beginsJ; rw [if_pos hid]
    have hR : beginsR z n e = false := by unfold beginsR; rw [if_pos hid]
    rw [hJ, hR]; exact ⟨rfl, fun _ => rfl, fun h => by cases h⟩
  cases hk : known e.kind with
  | false =>
    by_cases h2 : e.err = 2
    · have hJ : beginsJ js e = (js, true) := by unfold beginsJ; rw [if_neg hid, if_pos h2, hk]; rfl
      have hR : beginsR z n e = true := by unfold beginsR; rw [if_neg hid, if_pos hk, h2]; rfl
      rw [hJ, hR]; exact ⟨rfl, fun h => (by cases h), fun _ => hd2 (by omega)⟩
    · have hR : beginsR z n e = false := by unfold beginsR; rw [if_neg hid, if_pos hk]; simp [h2]
      have hJ : beginsJ js e = (js, false) := by
        unfold beginsJ
        rw [if_neg hid, if_neg h2, hk]
        by_cases h3 : e.err = 263
        · rw [if_pos h3]; rfl
        · rw [if_neg h3, if_pos (.inl rfl)]
      rw [hJ, hR]; exact ⟨rfl, fun _ => rfl, fun h => by cases h⟩
  | true =>
    have hkk := (known_iff e.kind).1 hk
    have hkn : ¬ known e.kind = false := by rw [hk]; simp
    by_cases h3 : e.err = 263
    · have hth : (!there e.dlci || decide (e.dlci = 62)) = (decide (e.dlci = 0) || (decide (e.dlci = 62) || decide (63 < e.dlci))) := by
        rw [Bool.eq_iff_iff]
        simp [there]
        omega
      obtain ⟨b, hb⟩ : ∃ b, (decide (e.dlci = 0) || (decide (e.dlci = 62) || decide (63 < e.dlci))) = b := ⟨_, rfl⟩
      have hJ : beginsJ js e = (js, b) := by unfold beginsJ; rw [if_neg hid, if_neg (by omega), if_pos h3, hk, hth, hb]; rfl
      have hR : beginsR z n e = b := by unfold beginsR; rw [if_neg hid, if_neg hkn, if_pos h3, hb]
      rw [hJ, hR]; exact ⟨rfl, fun _ => rfl, fun _ => hd2 (by omega)⟩
    by_cases h2 : e.err = 2
    · have hJ : beginsJ js e = (js, false) := by unfold beginsJ; rw [if_neg hid, if_pos h2, hk]; rfl
      have hR : beginsR z n e = false := by
        unfold beginsR
        rw [if_neg hid, if_neg hkn, if_neg h3]
        split
        · rfl
        · rw [if_neg (by omega), h2]; rfl
      rw [hJ, hR]; exact ⟨rfl, fun _ => rfl, fun h => by cases h⟩
    by_cases ht : e.dlci = 0 ∨ 63 < e.dlci
    · have hth : there e.dlci = false := by
        cases hb : there e.dlci with
        | false => rfl
        | true => have := (there_iff e.dlci).1 hb; omega
      have hJ : beginsJ js e = (js, false) := by unfold beginsJ; rw [if_neg hid, if_neg h2, if_neg h3, if_pos (.inr hth)]
      have hR : beginsR z n e = false := by unfold beginsR; rw [if_neg hid, if_neg hkn, if_neg h3, if_pos ht]
      rw [hJ, hR]; exact ⟨rfl, fun _ => rfl, fun h => by cases h⟩
    have hth : there e.dlci = true := (there_iff e.dlci).2 (by omega)
    have hkt : ¬ (known e.kind = false ∨ there e.dlci = false) := by rw [hk, hth]; simp
    have hr := h.recs e.side e.dlci
    have hwt := wait_spec hr hkk.1 hkk.2
    by_cases h4 : e.err = 262
    · have ho : ((js.recs e.side e.dlci).opened || (js.recs (1 - e.side) e.dlci).opened) = (openedP z 0 e.dlci n || openedP z 1 e.dlci n) := by
        rw [(h.recs e.side e.dlci).opened, (h.recs (1 - e.side) e.dlci).opened]
        have : e.side = 0 ∨ e.side = 1 := by omega
        rcases this with e1 | e1
        · rw [e1]
        · rw [e1, Bool.or_comm]
      have hwb : waiting (js.recs e.side e.dlci) e.kind = !decide (waitsP z e.side e.dlci e.kind n < 0) := by
        rcases hwt with ⟨a, _, b⟩ | ⟨i, _, a, _, _, b⟩
        · rw [a, b]; rfl
        · rw [a, b]; simp
      obtain ⟨b, hb⟩ : ∃ b, (!decide (waitsP z e.side e.dlci e.kind n < 0) || (decide (e.kind = 1) && (openedP z 0 e.dlci n || openedP z 1 e.dlci n))) = b := ⟨_, rfl⟩
      have hJ : beginsJ js e = (js, b) := by unfold beginsJ; rw [if_neg hid, if_neg h2, if_neg h3, if_neg hkt, if_pos h4, ho, hwb, hb]
      have hR : beginsR z n e = b := by unfold beginsR; rw [if_neg hid, if_neg hkn, if_neg h3, if_neg ht, if_pos h4, hb]
      rw [hJ, hR]; exact ⟨rfl, fun _ => rfl, fun _ => hd2 (by omega)⟩
    by_cases h5 : e.err = 0
    · rcases hwt with ⟨a, b, c⟩ | ⟨i, _, a, _, _, b⟩
      · have hR : beginsR z n e = true := by unfold beginsR; rw [if_neg hid, if_neg hkn, if_neg h3, if_neg ht, if_neg h4, a, h5]; rfl
        have hJ : beginsJ js e = (js.upd e.side e.dlci { (js.recs e.side e.dlci).wait e.kind e with opened := (js.recs e.side e.dlci).opened || decide (e.kind = 1), over := (js.recs e.side e.dlci).over || decide (e.kind = 5) }, true) := by
          unfold beginsJ
          rw [if_neg hid, if_neg h2, if_neg h3, if_neg hkt, if_neg h4, if_neg (by rintro (x | x); exact x h5; rw [c] at x; cases x)]
        rw [hJ, hR]
        refine ⟨rfl, fun x => (by cases x), fun _ => ?_⟩
        rw [← hze]
        have hh : hereE z n (z n).side (z n).dlci = true := by unfold hereE; simp
        have hwn : ∀ k, waitsP z (z n).side (z n).dlci k (n + 1) = if (z n).kind = k then (n : Int) else waitsP z (z n).side (z n).dlci k n := by
          intro k
          show (if hereE z n (z n).side (z n).dlci = true ∧ (z n).kind = k then (if (z n).ends then -1 else if (z n).err = 0 then (n : Int) else waitsP z (z n).side (z n).dlci k n) else waitsP z (z n).side (z n).dlci k n) = _
          by_cases e1 : (z n).kind = k
          · rw [if_pos ⟨hh, e1⟩, if_pos e1, hze, he, if_neg (by simp), if_pos h5]
          · rw [if_neg (fun x => e1 x.2), if_neg e1]
        have hwr : wrP z (z n).side (z n).dlci (n + 1) = wrP z (z n).side (z n).dlci n := by
          show wrP z (z n).side (z n).dlci n ++ pieceE z (z n).side (z n).dlci n = _
          unfold pieceE
          rw [if_neg (by rw [hze, he]; simp), ba_empty]
        have htk : ∀ s d, takenP z s d (n + 1) = takenP z s d n := by
          intro s d
          show (if hereE z n s d = true ∧ (z n).kind = 4 ∧ (z n).ends = true then _ else takenP z s d n) = _
          rw [if_neg (by rw [hze, he]; simp)]
        refine rel_next (js' := js.upd (z n).side (z n).dlci _) h (fun s d hc => by simp only [JS.upd]; rw [if_neg hc]) ?_ ?_
        · simp only [JS.upd, and_self, if_true]
          refine ⟨fun k => ?_, ?_, ?_, ?_, ?_, ?_⟩
          · rw [hwn]
            show _ ∨ (∃ i : Nat, i < n + 1 ∧ _ ∧ (if k = (z n).kind then z n else (js.recs (z n).side (z n).dlci).waits k) = z i ∧ _) ∨ _
            by_cases e1 : (z n).kind = k
            · rw [if_pos e1]
              refine .inr (.inl ⟨n, by omega, rfl, by rw [if_pos e1.symm], ?_⟩)
              rw [← e1, hze]
              exact hkk
            · rw [if_neg e1]
              have e2 : (((js.recs (z n).side (z n).dlci).wait (z n).kind (z n)).waits k) = (js.recs (z n).side (z n).dlci).waits k := by
                show (if k = (z n).kind then z n else _) = _
                rw [if_neg (Ne.symm e1)]
              rcases (h.recs (z n).side (z n).dlci).waits k with x | ⟨i, x, y, w, v⟩ | x
              · exact .inl ⟨x.1, e2.trans x.2⟩
              · exact .inr (.inl ⟨i, by omega, y, by rw [if_neg (Ne.symm e1)]; exact w, v⟩)
              · exact .inr (.inr ⟨x.1, e2.trans x.2⟩)
          · show ((js.recs (z n).side (z n).dlci).opened || decide ((z n).kind = 1)) = (openedP z (z n).side (z n).dlci n || (hereE z n (z n).side (z n).dlci && (decide ((z n).kind = 1) && (!(z n).ends && decide ((z n).err = 0)))))
            rw [(h.recs (z n).side (z n).dlci).opened, hh, hze, he, h5]
            simp
          · show ((js.recs (z n).side (z n).dlci).over || decide ((z n).kind = 5)) = (overP z (z n).side (z n).dlci n || (hereE z n (z n).side (z n).dlci && overE (z n)))
            unfold overE
            rw [(h.recs (z n).side (z n).dlci).over, hh, hze, he, h5]
            simp
          · rw [hwr]; exact (h.recs (z n).side (z n).dlci).wrote
          · rw [htk]; exact (h.recs (z n).side (z n).dlci).read
          · rw [htk]; exact (h.recs (z n).side (z n).dlci).readOver
        · intro s d hs'
          rw [htk]
          refine Int.le_trans (h.room s d hs') ?_
          by_cases hc : 1 - s = (z n).side ∧ d = (z n).dlci
          · rw [hc.1, hc.2]
            unfold wroteR
            rw [hwr, hwn, ByteArray.size_append, ByteArray.size_append]
            by_cases e1 : (z n).kind = 3
            · have a' : waitsP z (z n).side (z n).dlci 3 n = -1 := by rw [hze, ← e1, hze]; exact a
              rw [if_pos e1, a', if_neg (by omega)]
              have : (⟨#[]⟩ : ByteArray).size = 0 := rfl
              omega
            · rw [if_neg e1]
              exact Int.le_refl _
          · rw [wroteR_dull (.inl (by unfold hereE; simp only [Bool.and_eq_false_iff, decide_eq_false_iff_not]; by_cases e : (z n).side = 1 - s; exact .inr (fun e2 => hc ⟨e.symm, e2.symm⟩); exact .inl e))]
            exact Int.le_refl _
      · have hJ : beginsJ js e = (js, false) := by unfold beginsJ; rw [if_neg hid, if_neg h2, if_neg h3, if_neg hkt, if_neg h4, if_pos (.inr b)]
        have hR : beginsR z n e = false := by unfold beginsR; rw [if_neg hid, if_neg hkn, if_neg h3, if_neg ht, if_neg h4, a, h5, decide_eq_false (p := (i : Int) < 0) (by omega)]; rfl
        rw [hJ, hR]; exact ⟨rfl, fun _ => rfl, fun h => by cases h⟩
    · have hJ : beginsJ js e = (js, false) := by unfold beginsJ; rw [if_neg hid, if_neg h2, if_neg h3, if_neg hkt, if_neg h4, if_pos (.inl h5)]
      have hR : beginsR z n e = false := by unfold beginsR; rw [if_neg hid, if_neg hkn, if_neg h3, if_neg ht, if_neg h4, decide_eq_false h5]; rfl
      rw [hJ, hR]; exact ⟨rfl, fun _ => rfl, fun h => by cases h⟩
end Go.Proofs.Ytkikonknciffiaa
