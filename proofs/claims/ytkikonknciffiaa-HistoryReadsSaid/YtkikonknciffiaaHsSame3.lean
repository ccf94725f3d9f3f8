/- A judge's step and the document's word are one: ends, Entry. -/
import Derived.Test.YtkikonknciffiaaHsSame2
import Derived.IntWalk
namespace Go.Proofs.Ytkikonknciffiaa
open Go.RowKit
set_option linter.unusedVariables false
set_option linter.unusedSimpArgs false

theorem ba_eq_iff (a : ByteArray) : a = ⟨#[]⟩ ↔ a.size = 0 := by
  obtain ⟨⟨l⟩⟩ := a
  constructor
  · intro h; rw [h]; rfl
  · intro h
    have : l = [] := List.eq_nil_of_length_eq_zero h
    rw [this]
theorem none_of {e : En} (h : ¬ (e.n ≠ 0 ∨ e.data ≠ ⟨#[]⟩)) : noneE e = true := by
  unfold noneE
  simp only [Bool.and_eq_true, decide_eq_true_eq]
  exact ⟨Decidable.not_not.1 (fun x => h (.inl x)), Decidable.not_not.1 (fun x => h (.inr x))⟩
theorem none_not {e : En} (h : e.n ≠ 0 ∨ e.data ≠ ⟨#[]⟩) : noneE e = false := by
  unfold noneE
  rcases h with h | h <;> simp [h]
theorem endR_meets {js : JS} {z : Nat → En} {n : Nat} (b : Bool) (hk : (z n).kind = 1 ∨ (z n).kind = 2) (hb : b = ((js.recs (z n).side (z n).dlci).over || endedE (z n).err)) : EndR (js.recs (z n).side (z n).dlci) ({ js.recs (z n).side (z n).dlci with over := b }.wait (z n).kind zE) z n :=
  ⟨rfl, rfl, by show b = _; rw [hb, decide_eq_true (by omega)]; simp, by rw [if_neg (by omega), ba_empty]; rfl, by rw [if_neg (by omega)]; show _ = _ + 0; simp; rfl, by rw [decide_eq_false (by omega)]; simp; rfl⟩
theorem all_eq {js : JS} {z : Nat → En} {n s d : Nat} (h : Rel js z n) : allJ js s d = wroteR z (1 - s) d n := by
  have hr := h.recs (1 - s) d
  unfold allJ wroteR
  rw [hr.wrote]
  rcases hr.waits 3 with ⟨a, b⟩ | ⟨i, a, b, c, _⟩ | ⟨a, _⟩
  · rw [a, b, if_neg (by omega)]; rfl
  · rw [b, c, if_pos (by omega), Int.toNat_natCast]
  · omega
theorem ex_ex (a : ByteArray) (i j k l : Nat) : (a.extract i j).extract k l = a.extract (i + k) (min (i + l) j) := by
  exact ByteArray.extract_extract
theorem ends_ok {js : JS} {z : Nat → En} {n : Nat} (h : Rel js z n) (hw : Wf z n) (hsm : (z n).data.size ≤ 60) (hs : (z n).side ≤ 1) (he : (z n).ends = true) (hn : -9223372036854775808 ≤ (z n).n ∧ (z n).n ≤ 9223372036854775807) (hN : n ≤ 1000) :
    (endsJ js (z n)).2 = endsR z n (z n) ∧ (endsR z n (z n) = false → (endsJ js (z n)).1 = js) ∧ (endsR z n (z n) = true → Rel ⟨(z n).step, true, (endsJ js (z n)).1.recs⟩ z (n + 1) ∧ Wf z (n + 1)) := by
  have hth : there (z n).dlci = false ↔ ((z n).dlci = 0 ∨ 63 < (z n).dlci) := by
    cases hb : there (z n).dlci with
    | false =>
      refine ⟨fun _ => ?_, fun _ => rfl⟩
      by_cases x : 0 < (z n).dlci ∧ (z n).dlci ≤ 63
      · rw [(there_iff _).2 x] at hb; cases hb
      · omega
    | true => have := (there_iff _).1 hb; exact ⟨fun x => (by cases x), fun x => (by omega)⟩
  by_cases hc : known (z n).kind = false ∨ there (z n).dlci = false
  · have hJ : endsJ js (z n) = (js, false) := by unfold endsJ; rw [if_pos hc]
    have hR : endsR z n (z n) = false := by unfold endsR; rw [if_pos]; rcases hc with x | x; exact .inl x; exact .inr (hth.1 x)
    rw [hJ, hR]; exact ⟨rfl, fun _ => rfl, fun x => by cases x⟩
  have hcR : ¬ (known (z n).kind = false ∨ (z n).dlci = 0 ∨ 63 < (z n).dlci) := by rintro (x | x); exact hc (.inl x); exact hc (.inr (hth.2 x))
  have hk : known (z n).kind = true := by cases x : known (z n).kind; exact absurd (.inl x) hc; rfl
  obtain ⟨h1, h5⟩ := (known_iff _).1 hk
  have hr := h.recs (z n).side (z n).dlci
  have hr' := h.recs (1 - (z n).side) (z n).dlci
  rcases wait_spec hr h1 h5 with ⟨a1, a2, a3⟩ | ⟨i, hi, a1, a2, a3, a4⟩
  · have hJ : endsJ js (z n) = (js, false) := by unfold endsJ; rw [if_neg hc, if_pos (.inl a3)]
    have hR : endsR z n (z n) = false := by unfold endsR; rw [if_neg hcR, if_pos (.inl (by rw [a1]; decide))]
    rw [hJ, hR]; exact ⟨rfl, fun _ => rfl, fun x => by cases x⟩
  have hat : z (waitsP z (z n).side (z n).dlci (z n).kind n).toNat = z i := by rw [a1, Int.toNat_natCast]
  by_cases hid : (z i).id ≠ (z n).id
  · have hJ : endsJ js (z n) = (js, false) := by unfold endsJ; rw [if_neg hc, if_pos (.inr (by rw [a2]; exact hid))]
    have hR : endsR z n (z n) = false := by unfold endsR; rw [if_neg hcR, if_pos (.inr (by rw [hat]; exact hid))]
    rw [hJ, hR]; exact ⟨rfl, fun _ => rfl, fun x => by cases x⟩
  have hq : ¬ (waiting (js.recs (z n).side (z n).dlci) (z n).kind = false ∨ ((js.recs (z n).side (z n).dlci).waits (z n).kind).id ≠ (z n).id) := by rw [a4, a2]; rintro (x | x); cases x; exact hid x
  have hqR : ¬ (waitsP z (z n).side (z n).dlci (z n).kind n < 0 ∨ (z (waitsP z (z n).side (z n).dlci (z n).kind n).toNat).id ≠ (z n).id) := by rw [hat, a1]; rintro (x | x); omega; exact hid x
  have hRR : endsR z n (z n) = endsR z n (z n) := rfl
  conv at hRR =>
    rhs
    unfold endsR
    rw [if_neg hcR, if_neg hqR, hat]
  have F := fun js1 b => ends_fin (js1 := js1) (b := b) h hw hsm he hs h1 h5
  rw [a2] at F hq
  have hop : openedP z (1 - (z n).side) (z n).dlci n = (js.recs (1 - (z n).side) (z n).dlci).opened := hr'.opened.symm
  have hov : overP z (z n).side (z n).dlci n = (js.recs (z n).side (z n).dlci).over := hr.over.symm
  rw [hop, hov] at hRR
  have wself : js.upd (z n).side (z n).dlci ((js.recs (z n).side (z n).dlci).wait (z n).kind zE) = js.upd (z n).side (z n).dlci ({ js.recs (z n).side (z n).dlci with over := (js.recs (z n).side (z n).dlci).over }.wait (z n).kind zE) := rfl
  by_cases k3 : (z n).kind = 3
  · have hx : howJ js (z n).side (z n).dlci (z i) (z n) = wroteJ js (z n).side (z n).dlci (z i) (z n) := by unfold howJ; rw [if_pos k3]
    rw [if_neg (by omega), if_neg (by omega), if_pos k3] at hRR
    have a1' : waitsP z (z n).side (z n).dlci 3 n = (i : Int) := by rw [← k3]; exact a1
    have hA := hw.small i hi
    have hWs : (js.recs (z n).side (z n).dlci).wrote.size ≤ 60000 := by rw [hr.wrote]; have := wrP_size (z n).side (z n).dlci n hw; omega
    have hWR : ((wroteR z (z n).side (z n).dlci n).size : Int) = ((js.recs (z n).side (z n).dlci).wrote.size : Int) + ((z i).data.size : Int) := by
      unfold wroteR
      rw [a1', if_pos (by omega), Int.toNat_natCast, ByteArray.size_append, hr.wrote]
      omega
    have hG : (takenP z (1 - (z n).side) (z n).dlci n).1 = (js.recs (1 - (z n).side) (z n).dlci).read := hr'.read.symm
    rw [hWR, hG] at hRR
    by_cases w1 : (z n).data ≠ ⟨#[]⟩ ∨ (z n).n < 0 ∨ ((z i).data.size : Int) < (z n).n ∨ ((js.recs (z n).side (z n).dlci).wrote.size : Int) + (z n).n < (js.recs (1 - (z n).side) (z n).dlci).read
    · have hm : wroteJ js (z n).side (z n).dlci (z i) (z n) = (js, false) := by unfold wroteJ; rw [if_pos w1]
      refine F js false (hx.trans hm) ?_ hc hq (fun _ => rfl) (fun x => by cases x)
      rw [hRR]
      by_cases w2 : (z n).data ≠ ⟨#[]⟩
      · rw [decide_eq_false w2]; simp
      by_cases w3 : (z n).n < 0
      · rw [decide_eq_false (p := (0 : Int) ≤ (z n).n) (by omega), decide_eq_false (p := (z n).n = ((z i).data.size : Int)) (by omega)]; simp
      by_cases w4 : ((z i).data.size : Int) < (z n).n
      · rw [decide_eq_false (p := (z n).n ≤ ((z i).data.size : Int)) (by omega), decide_eq_false (p := (z n).n = ((z i).data.size : Int)) (by omega)]; simp
      have w5 : ((js.recs (z n).side (z n).dlci).wrote.size : Int) + (z n).n < (js.recs (1 - (z n).side) (z n).dlci).read := by
        rcases w1 with x | x | x | x
        · exact absurd x w2
        · exact absurd x w3
        · exact absurd x w4
        · exact x
      rw [IntWalk.i64_in _ (by omega), if_pos (by omega)]
    have w2 : (z n).data = ⟨#[]⟩ := Decidable.not_not.1 (fun x => w1 (.inl x))
    have w3 : 0 ≤ (z n).n := Int.not_lt.1 (fun x => w1 (.inr (.inl x)))
    have w4 : (z n).n ≤ ((z i).data.size : Int) := Int.not_lt.1 (fun x => w1 (.inr (.inr (.inl x))))
    have w5 : (js.recs (1 - (z n).side) (z n).dlci).read ≤ ((js.recs (z n).side (z n).dlci).wrote.size : Int) + (z n).n := Int.not_lt.1 (fun x => w1 (.inr (.inr (.inr x))))
    rw [IntWalk.i64_in _ (by omega), if_neg (by omega), w2, decide_eq_true w3, decide_eq_true w4] at hRR
    have hex : ((z i).data.extract 0 (z n).n.toNat).size = (z n).n.toNat := by rw [ByteArray.size_extract]; omega
    have hwq : (js.recs (z n).side (z n).dlci).wrote ++ (z i).data.extract 0 (z n).n.toNat = (js.recs (z n).side (z n).dlci).wrote ++ (if (z n).kind = 3 then (z (waitsP z (z n).side (z n).dlci 3 n).toNat).data.extract 0 (z n).n.toNat else ⟨#[]⟩) := by rw [if_pos k3, a1', Int.toNat_natCast]
    have hroom : (takenP z (1 - (z n).side) (z n).dlci n).1 ≤ (((js.recs (z n).side (z n).dlci).wrote ++ (z i).data.extract 0 (z n).n.toNat).size : Int) ∧ 0 ≤ waitsP z (z n).side (z n).dlci 3 n ∧ 0 ≤ (z n).n ∧ (z n).n ≤ ((z (waitsP z (z n).side (z n).dlci 3 n).toNat).data.size : Int) := by
      rw [hG, ByteArray.size_append, hex, a1', Int.toNat_natCast]
      omega
    cases w6 : endedE (z n).err with
    | true =>
      have hm : wroteJ js (z n).side (z n).dlci (z i) (z n) = (js.upd (z n).side (z n).dlci { js.recs (z n).side (z n).dlci with over := true, wrote := (js.recs (z n).side (z n).dlci).wrote ++ (z i).data.extract 0 (z n).n.toNat }, true) := by unfold wroteJ; rw [if_neg w1, if_pos w6]
      refine F _ true (hx.trans hm) ?_ hc hq (fun x => by cases x) (fun _ => ⟨(Rc.wait { js.recs (z n).side (z n).dlci with over := true, wrote := (js.recs (z n).side (z n).dlci).wrote ++ (z i).data.extract 0 (z n).n.toNat } (z n).kind zE), (by rw [updJ_upd, updJ_at]), ⟨rfl, rfl, ?_, hwq, ?_, ?_⟩, fun _ => hroom, fun x => (by omega)⟩)
      · rw [hRR, w6]; simp
      · show true = _; rw [w6, decide_eq_true (by omega)]; simp
      · rw [if_neg (by omega)]; show _ = _ + 0; simp; rfl
      · rw [decide_eq_false (by omega)]; simp; rfl
    | false =>
      have w6' : ¬ endedE (z n).err = true := by rw [w6]; simp
      by_cases w7 : (z n).err ≠ 0 ∨ (js.recs (z n).side (z n).dlci).over = true ∨ (z n).n ≠ ((z i).data.size : Int)
      · have hm : wroteJ js (z n).side (z n).dlci (z i) (z n) = (js, false) := by unfold wroteJ; rw [if_neg w1, if_neg w6', if_pos w7]
        refine F js false (hx.trans hm) ?_ hc hq (fun _ => rfl) (fun x => by cases x)
        rw [hRR, w6]
        rcases w7 with x | x | x
        · rw [decide_eq_false x]; simp
        · rw [x]; simp
        · rw [decide_eq_false x]; simp
      · have hm : wroteJ js (z n).side (z n).dlci (z i) (z n) = (js.upd (z n).side (z n).dlci { js.recs (z n).side (z n).dlci with wrote := (js.recs (z n).side (z n).dlci).wrote ++ (z i).data.extract 0 (z n).n.toNat }, true) := by unfold wroteJ; rw [if_neg w1, if_neg w6', if_neg w7]
        refine F _ true (hx.trans hm) ?_ hc hq (fun x => by cases x) (fun _ => ⟨(Rc.wait { js.recs (z n).side (z n).dlci with wrote := (js.recs (z n).side (z n).dlci).wrote ++ (z i).data.extract 0 (z n).n.toNat } (z n).kind zE), (by rw [updJ_upd, updJ_at]), ⟨rfl, rfl, ?_, hwq, ?_, ?_⟩, fun _ => hroom, fun x => (by omega)⟩)
        · have x1 : (z n).err = 0 := Decidable.not_not.1 (fun x => w7 (.inl x))
          have x2 : (js.recs (z n).side (z n).dlci).over = false := by cases x : (js.recs (z n).side (z n).dlci).over; rfl; exact absurd (.inr (.inl x)) w7
          have x3 : (z n).n = ((z i).data.size : Int) := Decidable.not_not.1 (fun x => w7 (.inr (.inr x)))
          rw [hRR, x1, x2, decide_eq_true x3]; simp
        · show (js.recs (z n).side (z n).dlci).over = _; rw [w6]; simp
        · rw [if_neg (by omega)]; show _ = _ + 0; simp; rfl
        · rw [decide_eq_false (by omega)]; simp; rfl
  by_cases k4 : (z n).kind = 4
  · have hx : howJ js (z n).side (z n).dlci (z i) (z n) = tookJ js (z n).side (z n).dlci (z i) (z n) := by unfold howJ; rw [if_neg k3, if_pos k4]
    rw [if_neg (by omega), if_neg (by omega), if_neg k3, if_pos k4] at hRR
    have hall := all_eq (s := (z n).side) (d := (z n).dlci) h
    have hrd : (takenP z (z n).side (z n).dlci n).1 = (js.recs (z n).side (z n).dlci).read := hr.read.symm
    have hdn : (takenP z (z n).side (z n).dlci n).2 = (js.recs (z n).side (z n).dlci).readOver := hr.readOver.symm
    have hge := takenP_ge z (z n).side (z n).dlci n
    have hroom := h.room (z n).side (z n).dlci hs
    rw [hrd] at hge hroom
    obtain ⟨R, hR⟩ := Int.eq_ofNat_of_zero_le hge
    rw [← hall] at hroom
    have hRk : readsR z n (z i) (z n) = readsR z n (z i) (z n) := rfl
    conv at hRk =>
      rhs
      unfold readsR
      rw [← hall, hrd, hdn, hR, Int.toNat_natCast]
    rw [hRk] at hRR
    have hend : ∀ b, (b = ((js.recs (z n).side (z n).dlci).readOver || endedE (z n).err) ∧ (z n).data.size = 0) → EndR (js.recs (z n).side (z n).dlci) (Rc.wait { js.recs (z n).side (z n).dlci with readOver := b } (z n).kind zE) z n := by
      intro b
      · rintro ⟨x, y⟩
        refine ⟨rfl, rfl, ?_, ?_, ?_, ?_⟩
        · rw [decide_eq_false (by omega)]; simp; rfl
        · rw [if_neg k3, ba_empty]; rfl
        · rw [if_pos k4, y]; show _ = _ + 0; simp; rfl
        · rw [decide_eq_true k4, x]; simp; rfl
    by_cases t0 : (z n).n ≠ 0
    · have hm : tookJ js (z n).side (z n).dlci (z i) (z n) = (js, false) := by unfold tookJ; rw [if_pos t0]
      refine F js false (hx.trans hm) ?_ hc hq (fun _ => rfl) (fun x => by cases x)
      rw [hRR, if_pos t0]
    rw [if_neg t0] at hRR
    by_cases t1 : (z n).data = ⟨#[]⟩
    · have t1s : (z n).data.size = 0 := (ba_eq_iff _).1 t1
      rw [if_pos t1] at hRR
      have hroom2 : (takenP z (z n).side (z n).dlci n).1 + ((z n).data.size : Int) ≤ ((wroteR z (1 - (z n).side) (z n).dlci n).size : Int) := by rw [← hall, hrd, hR, t1s]; omega
      cases t2 : endedE (z n).err with
      | true =>
        have hm : tookJ js (z n).side (z n).dlci (z i) (z n) = (js.upd (z n).side (z n).dlci { js.recs (z n).side (z n).dlci with readOver := true }, true) := by unfold tookJ; rw [if_neg t0, if_pos ⟨t2, t1⟩]
        refine F _ true (hx.trans hm) ?_ hc hq (fun x => by cases x) (fun _ => ⟨Rc.wait { js.recs (z n).side (z n).dlci with readOver := true } (z n).kind zE, (by rw [updJ_upd, updJ_at]), hend true ⟨by rw [t2]; simp, t1s⟩, fun x => (by omega), fun _ => hroom2⟩)
        rw [hRR, t2]; rfl
      | false =>
        rw [t2] at hRR
        by_cases t3 : (z n).err = 0
        · have hm : tookJ js (z n).side (z n).dlci (z i) (z n) = (js, decide ((z i).n < 1)) := by
            unfold tookJ
            rw [if_neg t0, if_neg (by rw [t2]; simp), if_neg (by rintro (x | x); exact x t3; omega), if_pos t1]
          refine F _ _ (hx.trans hm) ?_ hc hq (fun _ => rfl) (fun _ => ⟨Rc.wait { js.recs (z n).side (z n).dlci with readOver := (js.recs (z n).side (z n).dlci).readOver } (z n).kind zE, rfl, hend _ ⟨by rw [t2]; simp, t1s⟩, fun x => (by omega), fun _ => hroom2⟩)
          rw [hRR, decide_eq_true t3]; simp
        · have hm : tookJ js (z n).side (z n).dlci (z i) (z n) = (js, false) := by
            unfold tookJ
            rw [if_neg t0, if_neg (by rw [t2]; simp), if_pos (.inl t3)]
          refine F js false (hx.trans hm) ?_ hc hq (fun _ => rfl) (fun x => by cases x)
          rw [hRR, decide_eq_false t3]; simp
    rw [if_neg t1] at hRR
    have t1s : 0 < (z n).data.size := Nat.pos_of_ne_zero (fun x => t1 ((ba_eq_iff _).2 x))
    have t2 : ¬ (endedE (z n).err = true ∧ (z n).data = ⟨#[]⟩) := fun x => t1 x.2
    by_cases t3 : (z n).err ≠ 0 ∨ max 0 (z i).n < ((z n).data.size : Int)
    · have hm : tookJ js (z n).side (z n).dlci (z i) (z n) = (js, false) := by unfold tookJ; rw [if_neg t0, if_neg t2, if_pos t3]
      refine F js false (hx.trans hm) ?_ hc hq (fun _ => rfl) (fun x => by cases x)
      rw [hRR]
      rcases t3 with x | x
      · rw [decide_eq_false x]; simp
      · rw [decide_eq_false (p := ((z n).data.size : Int) ≤ (z i).n) (by omega)]; simp
    have t4 : (z n).err = 0 := Decidable.not_not.1 (fun x => t3 (.inl x))
    have t5 : ((z n).data.size : Int) ≤ (z i).n := by have := Int.not_lt.1 (fun x => t3 (.inr x)); omega
    rw [decide_eq_true t4, decide_eq_true t5] at hRR
    obtain ⟨A, hA⟩ : ∃ A, allJ js (z n).side (z n).dlci = A := ⟨_, rfl⟩
    rw [hA] at hRR hroom
    rw [hR] at hroom
    have hpre : hasPre (A.extract R A.size) (z n).data = (decide ((R : Int) + ((z n).data.size : Int) ≤ (A.size : Int)) && (A.extract R (R + (z n).data.size) == (z n).data)) := by
      unfold hasPre
      have hsz : (A.extract R A.size).size = A.size - R := by rw [ByteArray.size_extract]; omega
      rw [hsz, ex_ex]
      by_cases x : R + (z n).data.size ≤ A.size
      · rw [decide_eq_true (p := (z n).data.size ≤ A.size - R) (by omega), decide_eq_true (p := (R : Int) + ((z n).data.size : Int) ≤ (A.size : Int)) (by omega), Nat.min_eq_left (by omega), Nat.add_zero]
      · rw [decide_eq_false (p := (z n).data.size ≤ A.size - R) (by omega), decide_eq_false (p := (R : Int) + ((z n).data.size : Int) ≤ (A.size : Int)) (by omega)]; rfl
    rw [← hpre] at hRR
    by_cases t6 : (js.recs (z n).side (z n).dlci).readOver = true ∨ hasPre (A.extract R A.size) (z n).data = false
    · have hm : tookJ js (z n).side (z n).dlci (z i) (z n) = (js, false) := by unfold tookJ; rw [if_neg t0, if_neg t2, if_neg t3, if_neg t1, hA, hR, Int.toNat_natCast, if_pos t6]
      refine F js false (hx.trans hm) ?_ hc hq (fun _ => rfl) (fun x => by cases x)
      rw [hRR]
      rcases t6 with x | x
      · rw [x]; simp
      · rw [x]; simp
    · have hm : tookJ js (z n).side (z n).dlci (z i) (z n) = (js.upd (z n).side (z n).dlci { js.recs (z n).side (z n).dlci with read := (R : Int) + ((z n).data.size : Int) }, true) := by unfold tookJ; rw [if_neg t0, if_neg t2, if_neg t3, if_neg t1, hA, hR, Int.toNat_natCast, if_neg t6]
      have t7 : (js.recs (z n).side (z n).dlci).readOver = false := by cases x : (js.recs (z n).side (z n).dlci).readOver; rfl; exact absurd (.inl x) t6
      have t8 : hasPre (A.extract R A.size) (z n).data = true := by cases x : hasPre (A.extract R A.size) (z n).data; exact absurd (.inr x) t6; rfl
      have t9 : (R : Int) + ((z n).data.size : Int) ≤ (A.size : Int) := by
        rw [hpre] at t8
        simp only [Bool.and_eq_true, decide_eq_true_eq] at t8
        exact t8.1
      have t10 : endedE (z n).err = false := by rw [t4]; rfl
      refine F _ true (hx.trans hm) ?_ hc hq (fun x => by cases x) (fun _ => ⟨Rc.wait { js.recs (z n).side (z n).dlci with read := (R : Int) + ((z n).data.size : Int) } (z n).kind zE, (by rw [updJ_upd, updJ_at]), ⟨rfl, rfl, ?_, ?_, ?_, ?_⟩, fun x => (by omega), fun _ => ?_⟩)
      · rw [hRR, t7, t8]; rfl
      · rw [decide_eq_false (by omega)]; simp; rfl
      · rw [if_neg k3, ba_empty]; rfl
      · rw [if_pos k4, hR]; rfl
      · rw [decide_eq_true k4, t10]; simp; rfl
      · rw [← hall, hrd, hR, hA]; exact t9
  by_cases k5 : (z n).kind = 5
  · have hx : howJ js (z n).side (z n).dlci (z i) (z n) = closedJ js (z n) := by unfold howJ; rw [if_neg k3, if_neg k4, if_pos k5]
    rw [if_neg (by omega), if_neg (by omega), if_neg k3, if_neg k4] at hRR
    unfold closedJ at hx
    refine F js _ hx ?_ hc hq (fun _ => rfl) (fun _ => ⟨_, rfl, ⟨rfl, rfl, ?_, ?_, ?_, ?_⟩, fun x => (by omega), fun x => (by omega)⟩)
    · rw [hRR]; unfold noneE; rw [Bool.and_assoc]
    · rw [decide_eq_false (by omega)]; simp; rfl
    · rw [if_neg k3, ba_empty]; rfl
    · rw [if_neg k4]; show _ = _ + 0; simp; rfl
    · rw [decide_eq_false k4]; simp; rfl
  have k12 : (z n).kind = 1 ∨ (z n).kind = 2 := by omega
  have hx : howJ js (z n).side (z n).dlci (z i) (z n) = meetsJ js (z n).side (z n).dlci (z n) := by unfold howJ; rw [if_neg k3, if_neg k4, if_neg k5]
  by_cases m1 : (z n).n ≠ 0 ∨ (z n).data ≠ ⟨#[]⟩
  · have hm : meetsJ js (z n).side (z n).dlci (z n) = (js, false) := by unfold meetsJ; rw [if_pos m1]
    refine F js false (hx.trans hm) ?_ hc hq (fun _ => rfl) (fun x => by cases x)
    rw [hRR, none_not m1]
    rcases k12 with k | k
    · rw [if_pos k]; rfl
    · rw [if_neg (by omega), if_pos k]; rfl
  have hno := none_of m1
  rw [hno] at hRR
  cases m2 : endedE (z n).err with
  | true =>
    have hm : meetsJ js (z n).side (z n).dlci (z n) = (js.upd (z n).side (z n).dlci { js.recs (z n).side (z n).dlci with over := true }, true) := by unfold meetsJ; rw [if_neg m1, if_pos m2]
    refine F _ true (hx.trans hm) ?_ hc hq (fun x => by cases x) (fun _ => ⟨_, (by rw [updJ_upd, updJ_at]), endR_meets true k12 (by rw [m2]; simp), fun x => (by omega), fun x => (by omega)⟩)
    rw [hRR, m2]
    rcases k12 with k | k
    · rw [if_pos k]; rfl
    · rw [if_neg (by omega), if_pos k]; rfl
  | false =>
    have m2' : ¬ endedE (z n).err = true := by rw [m2]; simp
    by_cases m3 : (z n).kind = 2 ∧ (z n).err = 262
    · have hm : meetsJ js (z n).side (z n).dlci (z n) = (js, true) := by unfold meetsJ; rw [if_neg m1, if_neg m2', if_pos m3]
      refine F js true (hx.trans hm) ?_ hc hq (fun _ => rfl) (fun _ => ⟨_, wself, endR_meets _ k12 (by rw [m2]; simp), fun x => (by omega), fun x => (by omega)⟩)
      rw [hRR, if_neg (by omega), if_pos m3.1, m3.2]; simp
    · obtain ⟨b, hb⟩ : ∃ b, (decide ((z n).err = 0) && (!(js.recs (z n).side (z n).dlci).over && (decide ((z n).kind = 1) || (js.recs (1 - (z n).side) (z n).dlci).opened))) = b := ⟨_, rfl⟩
      have hm : meetsJ js (z n).side (z n).dlci (z n) = (js, b) := by unfold meetsJ; rw [if_neg m1, if_neg m2', if_neg m3, hb]
      refine F js b (hx.trans hm) ?_ hc hq (fun _ => rfl) (fun _ => ⟨_, wself, endR_meets _ k12 (by rw [m2]; simp), fun x => (by omega), fun x => (by omega)⟩)
      rw [hRR, m2, ← hb]
      rcases k12 with k | k
      · rw [if_pos k, decide_eq_true k]; simp
      · rw [if_neg (by omega), if_pos k, decide_eq_false (p := (z n).kind = 1) (by omega), decide_eq_false (p := (z n).err = 262) (fun x => m3 ⟨k, x⟩)]; simp
/-- The step. -/
theorem step_ok {js : JS} {z : Nat → En} {n : Nat} (h : Rel js z n) (hw : Wf z n) (hsm : (z n).data.size ≤ 60) (hn : -9223372036854775808 ≤ (z n).n ∧ (z n).n ≤ 9223372036854775807) (hN : n ≤ 1000) :
    (entryJ js (z n)).2 = rightR z n (z n) ∧ (rightR z n (z n) = false → (entryJ js (z n)).1 = js) ∧ (rightR z n (z n) = true → Rel (entryJ js (z n)).1 z (n + 1) ∧ Wf z (n + 1)) := by
  have hlast : (js.some = true ∧ (z n).step < js.last) ↔ (0 < n ∧ (z n).step < (z (n - 1)).step) := by
    rw [h.some]
    constructor
    · rintro ⟨a, b⟩
      have a' : 0 < n := by simpa using a
      exact ⟨a', by rw [← h.last a']; exact b⟩
    · rintro ⟨a, b⟩
      exact ⟨by simpa using a, by rw [h.last a]; exact b⟩
  by_cases h0 : 1 < (z n).side ∨ (js.some = true ∧ (z n).step < js.last)
  · have hJ : entryJ js (z n) = (js, false) := by unfold entryJ; rw [if_pos h0]
    have hR : rightR z n (z n) = false := by unfold rightR; rw [if_pos (by rcases h0 with x | x; exact .inl x; exact .inr (hlast.1 x))]
    rw [hJ, hR]; exact ⟨rfl, fun _ => rfl, fun x => by cases x⟩
  have h0' : ¬ (1 < (z n).side ∨ (0 < n ∧ (z n).step < (z (n - 1)).step)) := by rintro (x | x); exact h0 (.inl x); exact h0 (.inr (hlast.2 x))
  have hs : (z n).side ≤ 1 := by omega
  cases he : (z n).ends with
  | true =>
    obtain ⟨a, b, c⟩ := ends_ok h hw hsm hs he hn hN
    have hR : rightR z n (z n) = endsR z n (z n) := by unfold rightR; rw [if_neg h0', he]; rfl
    rw [hR]
    obtain ⟨Z, hZ⟩ : ∃ Z, endsJ js (z n) = Z := ⟨_, rfl⟩
    obtain ⟨js1, ok⟩ := Z
    rw [hZ] at a b c
    dsimp only at a b c
    have hJ : entryJ js (z n) = if ok = false then (js1, false) else (⟨(z n).step, true, js1.recs⟩, true) := by unfold entryJ; rw [if_neg h0, he]; simp only [if_true, hZ]
    rw [hJ, ← a]
    cases ok with
    | false => exact ⟨rfl, fun _ => b a.symm, fun x => by cases x⟩
    | true => exact ⟨rfl, fun x => (by cases x), fun _ => c a.symm⟩
  | false =>
    obtain ⟨a, b, c⟩ := begins_ok h hw hsm hs he
    have hR : rightR z n (z n) = beginsR z n (z n) := by unfold rightR; rw [if_neg h0', he]; rfl
    rw [hR]
    obtain ⟨Z, hZ⟩ : ∃ Z, beginsJ js (z n) = Z := ⟨_, rfl⟩
    obtain ⟨js1, ok⟩ := Z
    rw [hZ] at a b c
    dsimp only at a b c
    have hJ : entryJ js (z n) = if ok = false then (js1, false) else (⟨(z n).step, true, js1.recs⟩, true) := by unfold entryJ; rw [if_neg h0, he]; simp only [Bool.false_eq_true, if_false, hZ]
    rw [hJ, ← a]
    cases ok with
    | false => exact ⟨rfl, fun _ => b a.symm, fun x => by cases x⟩
    | true => exact ⟨rfl, fun x => (by cases x), fun _ => ⟨c a.symm, wf_next hw hsm (fun _ x => by rw [he] at x; cases x)⟩⟩
/-- The bounds that a judge's step takes for granted. -/
theorem rel_bounds {js : JS} {z : Nat → En} {n : Nat} (h : Rel js z n) (hw : Wf z n) (hN : n ≤ 1000) (s d : Nat) (hs : s ≤ 1) :
    (∀ s', (js.recs s' d).wrote.size ≤ 100000) ∧ (∀ s' k, ((js.recs s' d).waits k).data.size ≤ 100000) ∧ 0 ≤ (js.recs s d).read ∧ (js.recs s d).read ≤ ((allJ js s d).size : Int) := by
  refine ⟨fun s' => ?_, fun s' k => ?_, ?_, ?_⟩
  · rw [(h.recs s' d).wrote]; have := wrP_size s' d n hw; omega
  · rcases (h.recs s' d).waits k with x | ⟨i, x, _, y, _⟩ | x
    · rw [x.2]; decide
    · rw [y]; have := hw.small i x; omega
    · rw [x.2]; decide
  · rw [(h.recs s d).read]; exact takenP_ge z s d n
  · rw [(h.recs s d).read, all_eq h]; exact h.room s d hs
end Go.Proofs.Ytkikonknciffiaa
