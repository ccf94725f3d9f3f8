/- A judge's step and the document's word are one: ends. -/
import Derived.Test.YtkikonknciffiaaHsSame
namespace Go.Proofs.Ytkikonknciffiaa
open Go.RowKit
set_option linter.unusedVariables false
set_option linter.unusedSimpArgs false

theorem updJ_upd (js : JS) (s d : Nat) (r r' : Rc) : (js.upd s d r).upd s d r' = js.upd s d r' := by
  unfold JS.upd
  congr 1
  funext a b
  dsimp only
  split <;> rfl
theorem updJ_at (js : JS) (s d : Nat) (r : Rc) : (js.upd s d r).recs s d = r := by simp [JS.upd]
theorem dull_of {z : Nat → En} {n s d : Nat} (h : ¬ (s = (z n).side ∧ d = (z n).dlci)) : dull z n s d := by
  refine .inl ?_
  unfold hereE
  simp only [Bool.and_eq_false_iff, decide_eq_false_iff_not]
  by_cases e : (z n).side = s
  · exact .inr (fun e2 => h ⟨e.symm, e2.symm⟩)
  · exact .inl e
/-- What an end that is right leaves. -/
structure EndR (r r' : Rc) (z : Nat → En) (n : Nat) : Prop where
  waits : r'.waits = (r.wait (z n).kind zE).waits
  opened : r'.opened = r.opened
  over : r'.over = (r.over || (decide ((z n).kind ≤ 3) && endedE (z n).err))
  wrote : r'.wrote = r.wrote ++ (if (z n).kind = 3 then (z (waitsP z (z n).side (z n).dlci 3 n).toNat).data.extract 0 (z n).n.toNat else ⟨#[]⟩)
  read : r'.read = r.read + (if (z n).kind = 4 then ((z n).data.size : Int) else 0)
  readOver : r'.readOver = (r.readOver || (decide ((z n).kind = 4) && endedE (z n).err))
theorem ends_rel {js : JS} {z : Nat → En} {n : Nat} {r' : Rc} (h : Rel js z n) (he : (z n).ends = true) (hs : (z n).side ≤ 1) (h1 : 1 ≤ (z n).kind) (h5 : (z n).kind ≤ 5) (hE : EndR (js.recs (z n).side (z n).dlci) r' z n)
    (h3 : (z n).kind = 3 → (takenP z (1 - (z n).side) (z n).dlci n).1 ≤ ((r'.wrote).size : Int))
    (h4 : (z n).kind = 4 → (takenP z (z n).side (z n).dlci n).1 + ((z n).data.size : Int) ≤ ((wroteR z (1 - (z n).side) (z n).dlci n).size : Int)) : Rel ⟨(z n).step, true, (js.upd (z n).side (z n).dlci r').recs⟩ z (n + 1) := by
  have hr := h.recs (z n).side (z n).dlci
  have hh : hereE z n (z n).side (z n).dlci = true := by unfold hereE; simp
  have hwn : ∀ k, waitsP z (z n).side (z n).dlci k (n + 1) = if (z n).kind = k then -1 else waitsP z (z n).side (z n).dlci k n := by
    intro k
    show (if hereE z n (z n).side (z n).dlci = true ∧ (z n).kind = k then (if (z n).ends then -1 else if (z n).err = 0 then (n : Int) else waitsP z (z n).side (z n).dlci k n) else waitsP z (z n).side (z n).dlci k n) = _
    by_cases e1 : (z n).kind = k
    · rw [if_pos ⟨hh, e1⟩, if_pos e1, if_pos he]
    · rw [if_neg (fun x => e1 x.2), if_neg e1]
  have hpc : pieceE z (z n).side (z n).dlci n = if (z n).kind = 3 then (z (waitsP z (z n).side (z n).dlci 3 n).toNat).data.extract 0 (z n).n.toNat else ⟨#[]⟩ := by
    unfold pieceE
    by_cases e1 : (z n).kind = 3
    · rw [if_pos ⟨hh, e1, he⟩, if_pos e1]
    · rw [if_neg (fun x => e1 x.2.1), if_neg e1]
  have hwr : wrP z (z n).side (z n).dlci (n + 1) = r'.wrote := by
    show wrP z (z n).side (z n).dlci n ++ pieceE z (z n).side (z n).dlci n = _
    rw [hE.wrote, hr.wrote, hpc]
  have htk : takenP z (z n).side (z n).dlci (n + 1) = (r'.read, r'.readOver) := by
    show (if hereE z n (z n).side (z n).dlci = true ∧ (z n).kind = 4 ∧ (z n).ends = true then ((takenP z (z n).side (z n).dlci n).1 + ((z n).data.size : Int), (takenP z (z n).side (z n).dlci n).2 || endedE (z n).err) else takenP z (z n).side (z n).dlci n) = _
    rw [hE.read, hE.readOver, hr.read, hr.readOver]
    by_cases e1 : (z n).kind = 4
    · rw [if_pos ⟨hh, e1, he⟩, if_pos e1, decide_eq_true e1]; rfl
    · rw [if_neg (fun x => e1 x.2.1), if_neg e1, decide_eq_false e1]; simp
  refine rel_next (js' := js.upd (z n).side (z n).dlci r') h (fun s d hc => by simp only [JS.upd]; rw [if_neg hc]) ?_ ?_
  · rw [updJ_at]
    refine ⟨fun k => ?_, ?_, ?_, hwr.symm, by rw [htk], by rw [htk]⟩
    · rw [hwn, hE.waits]
      show _ ∨ (∃ i : Nat, i < n + 1 ∧ _ ∧ (if k = (z n).kind then zE else (js.recs (z n).side (z n).dlci).waits k) = z i ∧ _) ∨ _
      have hww : ((js.recs (z n).side (z n).dlci).wait (z n).kind zE).waits k = if k = (z n).kind then zE else (js.recs (z n).side (z n).dlci).waits k := rfl
      rw [hww]
      by_cases e1 : (z n).kind = k
      · rw [if_pos e1, if_pos e1.symm]
        exact .inl ⟨rfl, rfl⟩
      · rw [if_neg e1, if_neg (Ne.symm e1)]
        rcases hr.waits k with x | ⟨i, x, y⟩ | x
        · exact .inl x
        · exact .inr (.inl ⟨i, by omega, y⟩)
        · exact .inr (.inr x)
    · show r'.opened = (openedP z (z n).side (z n).dlci n || (hereE z n (z n).side (z n).dlci && (decide ((z n).kind = 1) && (!(z n).ends && decide ((z n).err = 0)))))
      rw [hE.opened, hr.opened, he]
      simp
    · show r'.over = (overP z (z n).side (z n).dlci n || (hereE z n (z n).side (z n).dlci && overE (z n)))
      unfold overE
      rw [hE.over, hr.over, hh, he]
      simp
  · intro s d hs'
    by_cases hc : s = (z n).side ∧ d = (z n).dlci
    · obtain ⟨rfl, rfl⟩ := hc
      rw [wroteR_dull (dull_of (fun x => by omega)), htk]
      show r'.read ≤ _
      rw [hE.read, hr.read]
      by_cases e1 : (z n).kind = 4
      · rw [if_pos e1]; exact h4 e1
      · rw [if_neg e1]; have := h.room (z n).side (z n).dlci hs'; omega
    · rw [(dull_all (dull_of hc)).2.2.2.2]
      by_cases hc2 : 1 - s = (z n).side ∧ d = (z n).dlci
      · have hs2 : s = 1 - (z n).side := by omega
        rw [hc2.1, hc2.2, hs2]
        unfold wroteR
        rw [hwr, hwn]
        by_cases e1 : (z n).kind = 3
        · rw [if_pos e1, if_neg (by omega), ba_empty]
          exact h3 e1
        · rw [if_neg e1, hE.wrote, if_neg e1, ba_empty, hr.wrote]
          have := h.room (1 - (z n).side) (z n).dlci (by omega)
          rw [show 1 - (1 - (z n).side) = (z n).side by omega] at this
          exact this
      · rw [wroteR_dull (dull_of hc2)]
        exact h.room s d hs'
/-- The end's three claims, of what a call's own test came to. -/
theorem ends_fin {js js1 : JS} {z : Nat → En} {n : Nat} {b : Bool} (h : Rel js z n) (hw : Wf z n) (hsm : (z n).data.size ≤ 60) (he : (z n).ends = true) (hs : (z n).side ≤ 1) (h1 : 1 ≤ (z n).kind) (h5 : (z n).kind ≤ 5)
    (hx : howJ js (z n).side (z n).dlci ((js.recs (z n).side (z n).dlci).waits (z n).kind) (z n) = (js1, b)) (hR : endsR z n (z n) = b)
    (hc : ¬ (known (z n).kind = false ∨ there (z n).dlci = false)) (hq : ¬ (waiting (js.recs (z n).side (z n).dlci) (z n).kind = false ∨ ((js.recs (z n).side (z n).dlci).waits (z n).kind).id ≠ (z n).id))
    (hf : b = false → js1 = js) (ht : b = true → ∃ r1, js1.upd (z n).side (z n).dlci ((js1.recs (z n).side (z n).dlci).wait (z n).kind zE) = js.upd (z n).side (z n).dlci r1 ∧ EndR (js.recs (z n).side (z n).dlci) r1 z n ∧
      ((z n).kind = 3 → (takenP z (1 - (z n).side) (z n).dlci n).1 ≤ ((r1.wrote).size : Int) ∧ 0 ≤ waitsP z (z n).side (z n).dlci 3 n ∧ 0 ≤ (z n).n ∧ (z n).n ≤ ((z (waitsP z (z n).side (z n).dlci 3 n).toNat).data.size : Int)) ∧
      ((z n).kind = 4 → (takenP z (z n).side (z n).dlci n).1 + ((z n).data.size : Int) ≤ ((wroteR z (1 - (z n).side) (z n).dlci n).size : Int))) :
    (endsJ js (z n)).2 = endsR z n (z n) ∧ (endsR z n (z n) = false → (endsJ js (z n)).1 = js) ∧ (endsR z n (z n) = true → Rel ⟨(z n).step, true, (endsJ js (z n)).1.recs⟩ z (n + 1) ∧ Wf z (n + 1)) := by
  rw [hR]
  cases b with
  | false =>
    have hJ : endsJ js (z n) = (js1, false) := by
      unfold endsJ
      rw [if_neg hc, if_neg hq]
      simp only [hx, if_true]
    rw [hJ]
    exact ⟨rfl, fun _ => hf rfl, fun x => by cases x⟩
  | true =>
    obtain ⟨r1, e1, e2, e3, e4⟩ := ht rfl
    have hJ : endsJ js (z n) = (js.upd (z n).side (z n).dlci r1, true) := by
      unfold endsJ
      rw [if_neg hc, if_neg hq]
      simp only [hx, e1, Bool.true_eq_false, if_false]
    rw [hJ]
    exact ⟨rfl, fun x => (by cases x), fun _ => ⟨ends_rel h he hs h1 h5 e2 (fun k => (e3 k).1) e4, wf_next hw hsm (fun k _ => (e3 k).2)⟩⟩
end Go.Proofs.Ytkikonknciffiaa
