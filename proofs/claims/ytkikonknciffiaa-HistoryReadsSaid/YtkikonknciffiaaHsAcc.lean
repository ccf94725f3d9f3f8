/- Accepts: the walk. -/
import Derived.Test.YtkikonknciffiaaHsEntry
import Derived.Test.YtkikonknciffiaaHsSame3
namespace Go.Proofs.Ytkikonknciffiaa
open Go.RowKit
set_option linter.unusedVariables false
set_option linter.unusedSimpArgs false

/-- A row of entries lies there. -/
def HoldsE (w : World) (a : Option Addr) (n : Nat) (z : Nat → En) : Prop := 0 < n → ∃ b o, a = some ⟨b, o, none⟩ ∧ b < w.heap.size ∧ ∀ i, i < n → ∀ j, j < 9 → w.cell? ⟨b, o + (i * 9 + j), none⟩ = (enA (z i))[j]?
theorem HoldsE.below {w w' : World} {a : Option Addr} {n : Nat} {z : Nat → En} (h : HoldsE w a n z) (b : Below w.heap.size w w') : HoldsE w' a n z := by
  intro h0
  obtain ⟨g, o, e, h1, h2⟩ := h h0
  exact ⟨g, o, e, Nat.lt_of_lt_of_le h1 b.size, fun i hi j hj => (b.cell (p := ⟨g, _, none⟩) h1).trans (h2 i hi j hj)⟩
theorem HoldsE.mono {w : World} {a : Option Addr} {n m : Nat} {z : Nat → En} (h : HoldsE w a n z) (hm : m ≤ n) : HoldsE w a m z := by
  intro h0
  obtain ⟨g, o, e, h1, h2⟩ := h (by omega)
  exact ⟨g, o, e, h1, fun i hi => h2 i (by omega)⟩
theorem en_at {lb lo k : Nat} {st : Int} {sd kd dl : Nat} {en : Bool} {id n : Int} {dt : ByteArray} {er : Int} {W : World} (h : ∀ j, j < 9 → W.cell? ⟨lb, lo + (k * 9 + j), none⟩ = (enA ⟨st, sd, kd, dl, en, id, n, dt, er⟩)[j]?) : W.cell? ⟨lb, lo + k * 9, none⟩ = some (.int .i64 st) ∧ W.cell? ⟨lb, lo + k * 9 + 1, none⟩ = some (.int .u8 (sd : Int)) ∧ W.cell? ⟨lb, lo + k * 9 + 2, none⟩ = some (.int .u8 (kd : Int)) ∧ W.cell? ⟨lb, lo + k * 9 + 3, none⟩ = some (.int .u8 (dl : Int)) ∧ W.cell? ⟨lb, lo + k * 9 + 4, none⟩ = some (.bool en) ∧ W.cell? ⟨lb, lo + k * 9 + 5, none⟩ = some (.int .i64 id) ∧ W.cell? ⟨lb, lo + k * 9 + 6, none⟩ = some (.int .i64 n) ∧ W.cell? ⟨lb, lo + k * 9 + 7, none⟩ = some (.string dt) ∧ W.cell? ⟨lb, lo + k * 9 + 8, none⟩ = some (.int .i64 er) := by
  have h' : ∀ j, j < 9 → W.cell? ⟨lb, lo + k * 9 + j, none⟩ = (enA ⟨st, sd, kd, dl, en, id, n, dt, er⟩)[j]? := fun j hj => by rw [Nat.add_assoc]; exact h j hj
  exact ⟨h' 0 (by decide), h' 1 (by decide), h' 2 (by decide), h' 3 (by decide), h' 4 (by decide), h' 5 (by decide), h' 6 (by decide), h' 7 (by decide), h' 8 (by decide)⟩
/-- What an entry's fields may be. -/
structure EnOk (e : En) : Prop where
  side : e.side ≤ 255
  kind : e.kind ≤ 255
  dlci : e.dlci ≤ 255
  n0 : -9223372036854775808 ≤ e.n
  n1 : e.n ≤ 9223372036854775807
  small : e.data.size ≤ 60
/-- How much of a history is right. -/
structure AccR (z : Nat → En) (n k : Nat) (ok : Bool) : Prop where
  le : k ≤ n
  right : ∀ j, j < k → rightR z j (z j) = true
  all : ok = true → k = n
  bad : ok = false → k < n ∧ rightR z k (z k) = false
theorem AccR.unique {z : Nat → En} {n k k' : Nat} {ok ok' : Bool} (h : AccR z n k ok) (h' : AccR z n k' ok') : k = k' ∧ ok = ok' := by
  have key : ∀ {k k' : Nat} {ok ok' : Bool}, AccR z n k ok → AccR z n k' ok' → ¬ k < k' := by
    intro k k' ok ok' h h' hlt
    have h1 := h'.right k hlt
    cases ok with
    | true => have := h.all rfl; have := h'.le; omega
    | false => rw [(h.bad rfl).2] at h1; cases h1
  have e : k = k' := by have := key h h'; have := key h' h; omega
  subst e
  refine ⟨rfl, ?_⟩
  cases ok with
  | true =>
    cases ok' with
    | true => rfl
    | false => have := h.all rfl; have := (h'.bad rfl).1; omega
  | false =>
    cases ok' with
    | true => have := h'.all rfl; have := (h.bad rfl).1; omega
    | false => rfl

set_option maxRecDepth 100000 in
set_option maxHeartbeats 4000000 in
theorem haccepts_any (a : Option Addr) (n ca : Nat) (z : Nat → En) (w : World) (hE : HoldsE w a n z) (hn : n ≤ 1000) (hz : ∀ i, i < n → EnOk (z i)) :
    Calls Try.prog 10 #[.slice a n ca] w fun e w' => ∃ k ok, e = .returned (.tuple #[.int .i64 ((k : Nat) : Int), .bool ok]) ∧ AccR z n k ok ∧ Below w.heap.size w w' := by
  have HE := hide hE
  have HZ := hide hz
  clear hE hz
  go_enter Try.func10, Try.ntmps10
  go_wp2_with fail
  refine (hnew_any w).mono ?_
  rintro e w1 ⟨rfl, J1, b1⟩
  have k1 := KJ.ofBelow (Nat.le_refl _) b1
  clear b1
  go_wp2
  go_loopw [10] (fun i wr => ∃ (k : Nat) (js : JS) (L : List (Nat × Nat × Nat)), k ≤ n ∧ i = .int .i64 (k : Int) ∧ JAt w.heap.size (w.heap.size + 1) js L wr ∧ KJ w.heap.size w wr ∧ Rel js z k ∧ Wf z k ∧ ∀ j, j < k → rightR z j (z j) = true) (fun i _ => n - (intOf i).toNat)
  case atStart => exact ⟨0, zJ, [], by omega, rfl, J1, k1, rel_zero z, ⟨fun i hi => by omega, fun i hi => by omega⟩, fun j hj => by omega⟩
  case round =>
    clear J1 k1
    obtain ⟨k, js, L, hkn, rfl, J, kj, hR, hW, hr⟩ := hrel
    by_cases hkl : k < n
    · have hkl' : (k : Int) < (n : Int) := by omega
      obtain ⟨lb, lo, rfl, hlb, hlc⟩ := HE.out (by omega)
      have hl3 := fun j hj => (kj.below.cell (p := ⟨lb, _, none⟩) hlb).trans (hlc k hkl j hj)
      have ho := HZ.out k hkl
      obtain ⟨s1, s2, s3⟩ := step_ok hR hW ho.small ⟨ho.n0, ho.n1⟩ (by omega)
      have hbd := fun d (hs : (z k).side ≤ 1) => rel_bounds hR hW (by omega) (z k).side d hs
      have HW2 := hide (fun x => s3 x)
      have HS1 := hide s1
      clear s1 s2 s3
      obtain ⟨X, hX⟩ : ∃ X, entryJ js (z k) = X := ⟨_, rfl⟩
      rw [hX] at HW2 HS1
      obtain ⟨b, hb⟩ : ∃ b, rightR z k (z k) = b := ⟨_, rfl⟩
      rw [hb] at HW2 HS1
      have HB := hide hb
      obtain ⟨e, hze⟩ : ∃ e, z k = e := ⟨_, rfl⟩
      rw [hze] at hl3 ho hX hbd
      clear hze hb hlc
      obtain ⟨st, sd, kd, dl, en, id, n, dt, er⟩ := e
      obtain ⟨e0, e1, e2, e3, e4, e5, e6, e7, e8⟩ := en_at hl3
      have hB1 : w.heap.size ≤ wr.heap.size := kj.below.size
      have b2 := (Below.refl wr.heap.size wr).alloc (Nat.le_refl _) (.cells #[.int .i64 st, .int .u8 (sd : Int), .int .u8 (kd : Int), .int .u8 (dl : Int), .bool en, .int .i64 id, .int .i64 n, .string dt, .int .i64 er] 38)
      have J2 := J.alloc (.cells #[.int .i64 st, .int .u8 (sd : Int), .int .u8 (kd : Int), .int .u8 (dl : Int), .bool en, .int .i64 id, .int .i64 n, .string dt, .int .i64 er] 38)
      have k2 := kj.trans (KJ.ofBelow hB1 b2)
      have E2 : EnBlk (wr.alloc (.cells #[.int .i64 st, .int .u8 (sd : Int), .int .u8 (kd : Int), .int .u8 (dl : Int), .bool en, .int .i64 id, .int .i64 n, .string dt, .int .i64 er] 38)) wr.heap.size st sd kd dl en id n dt er := World.alloc_heap_new wr _
      obtain ⟨c0, c1, c2, c3, c4, c5, c6, c7, c8, _⟩ := en_cells E2
      have HC := hide (entry_any w.heap.size (w.heap.size + 1) js L st sd kd dl en id n dt er _ (fun hs => (by obtain ⟨x1, x2, x3, x4⟩ := hbd dl hs; exact ⟨x1, x2, x3, x4⟩)) (Nat.le_trans ho.small (by decide)) J2)
      rw [hX] at HC
      clear hl3 b2 J kj J2 E2 hX hbd ho
      go_upto_region 5 with (fail)
      generalize wr.alloc (.cells #[.int .i64 st, .int .u8 (sd : Int), .int .u8 (kd : Int), .int .u8 (dl : Int), .bool en, .int .i64 id, .int .i64 n, .string dt, .int .i64 er] 38) = w2 at *
      go_wp2_with fail
      refine HC.out.mono ?_
      rintro e w3 ⟨L3, rfl, J3, k3⟩
      have k4 := k2.trans k3
      rw [HS1.out]
      clear HC
      cases b with
      | false =>
        go_wp2
        go_ret2
        exact ⟨k, false, rfl, ⟨by omega, hr, fun x => (by cases x), fun _ => ⟨hkl, HB.out⟩⟩, k4.below⟩
      | true =>
        obtain ⟨hR2, hW3⟩ := HW2.out rfl
        go_wp2
        go_roundw
        case rel => exact ⟨k + 1, X.1, L3, hkl, by go_num, J3, k4, hR2, hW3, fun j hj => (by by_cases x : j = k; subst x; exact HB.out; exact hr j (by omega))⟩
        case measure => simp [intOf]; omega
    · obtain rfl : k = n := by omega
      go_wp2
      go_ret2
      exact ⟨k, true, rfl, ⟨by omega, hr, fun _ => rfl, fun x => (by cases x)⟩, kj.below⟩
end Go.Proofs.Ytkikonknciffiaa
