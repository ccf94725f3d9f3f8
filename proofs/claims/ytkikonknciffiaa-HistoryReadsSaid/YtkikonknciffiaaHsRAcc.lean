/- Accepts, the document's: the walk. -/
import Derived.Test.YtkikonknciffiaaHsRight
namespace Go.Proofs.Ytkikonknciffiaa
open Go.RowKit
set_option linter.unusedVariables false
set_option linter.unusedSimpArgs false

/-- An entry of a row. -/
structure XJ (lb lo k : Nat) (st : Int) (sd kd dl : Nat) (en : Bool) (id nn : Int) (dt : ByteArray) (er : Int) (W : World) : Prop where
  lt : lb < W.heap.size
  a : ∀ j, j < 9 → W.cell? ⟨lb, lo + (k * 9 + j), none⟩ = (enA ⟨st, sd, kd, dl, en, id, nn, dt, er⟩)[j]?
theorem XJ.below {lb lo k : Nat} {st : Int} {sd kd dl : Nat} {en : Bool} {id nn : Int} {dt : ByteArray} {er : Int} {W W' : World} (h : XJ lb lo k st sd kd dl en id nn dt er W) (b : Below W.heap.size W W') : XJ lb lo k st sd kd dl en id nn dt er W' :=
  ⟨Nat.lt_of_lt_of_le h.lt b.size, fun j hj => (b.cell (p := ⟨lb, _, none⟩) h.lt).trans (h.a j hj)⟩
theorem XJ.cells {lb lo k : Nat} {st : Int} {sd kd dl : Nat} {en : Bool} {id nn : Int} {dt : ByteArray} {er : Int} {W : World} (h : XJ lb lo k st sd kd dl en id nn dt er W) : W.cell? ⟨lb, lo + k * 9, none⟩ = some (.int .i64 st) ∧ W.cell? ⟨lb, lo + k * 9 + 1, none⟩ = some (.int .u8 (sd : Int)) ∧ W.cell? ⟨lb, lo + k * 9 + 2, none⟩ = some (.int .u8 (kd : Int)) ∧ W.cell? ⟨lb, lo + k * 9 + 3, none⟩ = some (.int .u8 (dl : Int)) ∧ W.cell? ⟨lb, lo + k * 9 + 4, none⟩ = some (.bool en) ∧ W.cell? ⟨lb, lo + k * 9 + 5, none⟩ = some (.int .i64 id) ∧ W.cell? ⟨lb, lo + k * 9 + 6, none⟩ = some (.int .i64 nn) ∧ W.cell? ⟨lb, lo + k * 9 + 7, none⟩ = some (.string dt) ∧ W.cell? ⟨lb, lo + k * 9 + 8, none⟩ = some (.int .i64 er) := en_at h.a
/-- What was right so far is well formed. -/
def Wg (z : Nat → En) (n : Nat) : Prop := ∃ js, Rel js z n
theorem wg_step {z : Nat → En} {n : Nat} (h : Wg z n) (hw : Wf z n) (ho : EnOk (z n)) (hN : n ≤ 1000) (hr : rightR z n (z n) = true) : Wg z (n + 1) ∧ Wf z (n + 1) := by
  obtain ⟨js, hR⟩ := h
  obtain ⟨s1, s2, s3⟩ := step_ok hR hw ho.small ⟨ho.n0, ho.n1⟩ hN
  obtain ⟨x, y⟩ := s3 (by first | exact hr | (rw [s1]; exact hr))
  exact ⟨⟨_, x⟩, y⟩

set_option maxRecDepth 100000 in
set_option maxHeartbeats 4000000 in
theorem raccepts_any (a : Option Addr) (n ca : Nat) (z : Nat → En) (w : World) (hE : HoldsE w a n z) (hn : n ≤ 1000) (hca : n ≤ ca) (hz : ∀ i, i < n → EnOk (z i)) :
    Calls Try.prog 11 #[.slice a n ca] w fun e w' => ∃ k ok, e = .returned (.tuple #[.int .i64 ((k : Nat) : Int), .bool ok]) ∧ AccR z n k ok ∧ Below w.heap.size w w' := by
  have HE := hide hE
  have HZ := hide hz
  clear hE hz
  go_enter Try.func11, Try.ntmps11
  go_upto_region 2 with (fail)
  go_loopw [4] (fun i wr => ∃ (k : Nat), k ≤ n ∧ i = .int .i64 (k : Int) ∧ Below w.heap.size w wr ∧ Wg z k ∧ Wf z k ∧ ∀ j, j < k → rightR z j (z j) = true) (fun i _ => n - (intOf i).toNat)
  case atStart => exact ⟨0, by omega, rfl, Below.refl _ _, ⟨zJ, rel_zero z⟩, ⟨fun i hi => by omega, fun i hi => by omega⟩, fun j hj => by omega⟩
  case round =>
    obtain ⟨k, hkn, rfl, b1, hG, hW, hr⟩ := hrel
    by_cases hkl : k < n
    · have hkl' : (k : Int) < (n : Int) := by omega
      have hkc' : (k : Int) ≤ (ca : Int) := by omega
      obtain ⟨lb, lo, rfl, hlb, hlc⟩ := HE.out (by omega)
      have hE1 := HE.out.below b1
      have hl3 := fun j hj => (b1.cell (p := ⟨lb, _, none⟩) hlb).trans (hlc k hkl j hj)
      have ho := HZ.out k hkl
      have hsm := Nat.le_trans ho.small (show 60 ≤ 1000 by decide)
      have HW2 := hide (wg_step hG hW ho (by omega))
      obtain ⟨b, hb⟩ : ∃ b, rightR z k (z k) = b := ⟨_, rfl⟩
      rw [hb] at HW2
      have HB := hide hb
      obtain ⟨e, hze⟩ : ∃ e, z k = e := ⟨_, rfl⟩
      rw [hze] at hl3 hsm hb
      have HZE := hide hze
      clear hlc ho hze
      obtain ⟨st, sd, kd, dl, en, id, nn, dt, er⟩ := e
      dsimp only at hsm
      have hb2 := hide hb
      clear hb
      have S1 : XJ lb lo k st sd kd dl en id nn dt er wr := ⟨Nat.lt_of_lt_of_le hlb b1.size, hl3⟩
      clear hl3 hlb
      obtain ⟨a0, a1, a2, a3, a4, a5, a6, a7, a8⟩ := S1.cells
      go_upto_region 4 with (fail)
      clear a0 a1 a2 a3 a4 a5 a6 a7 a8
      refine wp_region_held (S := fun W => XJ lb lo k st sd kd dl en id nn dt er W) (by kernel_rfl) ?_
      change wpAnyH _ _ _ _ _ _ _ _ (World.drew _)
      have hS : XJ lb lo k st sd kd dl en id nn dt er wr.drew := ⟨S1.lt, S1.a⟩
      have bd : Below w.heap.size w wr.drew := below_drewN b1 1
      have hEd : HoldsE wr.drew (some ⟨lb, lo, none⟩) n z := hE1
      clear b1 hE1 S1
      generalize wr.drew = wd at *
      refine take_atH 0 11 hS rfl rfl (by kernel_rfl) (by kernel_rfl) (by kernel_rfl) (fun _ _ _ h => h) rfl (fun wq hq => by go_simp; first | done | with_reducible rfl) ?_
      simp only [Act.put, List.setIfInBounds_toArray, List.set_cons_zero, List.set_cons_succ]
      refine take_atH 1 12 hS rfl rfl (by kernel_rfl) (by kernel_rfl) (by kernel_rfl) (fun _ _ _ h => h) rfl (fun wq hq => by go_simp; first | done | with_reducible rfl) ?_
      simp only [Act.put, List.setIfInBounds_toArray, List.set_cons_zero, List.set_cons_succ]
      refine take_atH 2 13 hS rfl rfl (by kernel_rfl) (by kernel_rfl) (by kernel_rfl) (fun _ _ _ h => h) rfl (fun wq hq => by go_simp; first | done | with_reducible rfl) ?_
      simp only [Act.put, List.setIfInBounds_toArray, List.set_cons_zero, List.set_cons_succ]
      refine take_atH 3 14 hS rfl rfl (by kernel_rfl) (by kernel_rfl) (by kernel_rfl) (fun _ _ _ h => h) rfl (fun wq hq => by go_simp; first | done | with_reducible rfl) ?_
      simp only [Act.put, List.setIfInBounds_toArray, List.set_cons_zero, List.set_cons_succ]
      refine take_atH 4 15 hS rfl rfl (by kernel_rfl) (by kernel_rfl) (by kernel_rfl) (fun _ _ _ h => h) rfl (fun wq hq => by go_simp; first | done | with_reducible rfl) ?_
      simp only [Act.put, List.setIfInBounds_toArray, List.set_cons_zero, List.set_cons_succ]
      refine take_atH 5 16 hS rfl rfl (by kernel_rfl) (by kernel_rfl) (by kernel_rfl) (fun _ _ _ h => h) rfl (fun wq hq => by go_simp; first | done | with_reducible rfl) ?_
      simp only [Act.put, List.setIfInBounds_toArray, List.set_cons_zero, List.set_cons_succ]
      refine take_atH 6 17 hS rfl rfl (by kernel_rfl) (by kernel_rfl) (by kernel_rfl) (fun _ _ _ h => h) rfl (fun wq hq => by obtain ⟨a0, a1, a2, a3, a4, a5, a6, a7, a8⟩ := hq.cells; go_simp; first | done | with_reducible rfl) ?_
      simp only [Act.put, List.setIfInBounds_toArray, List.set_cons_zero, List.set_cons_succ]
      refine lone_atH 7 rfl (by kernel_rfl) rfl (fun K hK => ?_)
      go_simp
      refine (right_any (some ⟨lb, lo, none⟩) k ca z st sd kd dl en id nn dt er _ (hEd.mono (Nat.le_of_lt hkl)) (by omega) hW (by omega) hsm).mono ?_; rintro e wN1 ⟨rfl, bN1⟩
      refine (fun hN1 => hK _ _ hN1 ?_) ((hS).below bN1); clear hK K
      refine take_atH 8 19 hN1 rfl rfl (by kernel_rfl) (by kernel_rfl) (by kernel_rfl) (fun _ _ _ h => h) rfl (fun wq hq => by go_simp; first | done | with_reducible rfl) ?_
      simp only [Act.put, List.setIfInBounds_toArray, List.set_cons_zero, List.set_cons_succ]
      refine wpAnyH_done (by kernel_rfl) ?_ _

      rw [hb2.out]
      have b3 := below_step bd (Nat.le_refl _) bN1
      cases b with
      | false =>
        go_wp2
        go_ret2
        exact ⟨k, false, rfl, ⟨by omega, hr, fun x => (by cases x), fun _ => ⟨hkl, HB.out⟩⟩, b3⟩
      | true =>
        obtain ⟨hG2, hW3⟩ := HW2.out rfl
        go_wp2
        go_roundw
        case rel => exact ⟨k + 1, hkl, by go_num, b3, hG2, hW3, fun j hj => (by by_cases x : j = k; subst x; exact HB.out; exact hr j (by omega))⟩
        case measure => simp [intOf]; omega
    · obtain rfl : k = n := by omega
      go_wp2
      go_ret2
      exact ⟨k, true, rfl, ⟨by omega, hr, fun _ => rfl, fun x => (by cases x)⟩, b1⟩
end Go.Proofs.Ytkikonknciffiaa
