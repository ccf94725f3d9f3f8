/- HistoryAccepts and HistoryGoes: the walks. -/
import Derived.Test.YtkikonknciffiaaHsWorks
import Derived.Test.YtkikonknciffiaaHsOpen
namespace Go.Proofs.Ytkikonknciffiaa
open Go.RowKit
set_option linter.unusedVariables false
set_option linter.unusedSimpArgs false

theorem wroteR_congr {z z' : Nat → En} (s d n : Nat) (hw : Wf z n) (h : ∀ i, i < n → z i = z' i) : wroteR z s d n = wroteR z' s d n := by
  unfold wroteR
  rw [wrP_congr s d n hw h, ← waitsP_congr s d 3 n h]
  split
  · rename_i h0
    rw [at_congr s d 3 n h h0, ← waitsP_congr s d 3 n h]
  · rfl
theorem Rel.congr {js : JS} {z z' : Nat → En} {n : Nat} (h : Rel js z n) (hw : Wf z n) (e : ∀ i, i < n → z i = z' i) : Rel js z' n := by
  refine ⟨fun s d => ?_, h.some, fun h0 => by rw [← e (n - 1) (by omega)]; exact h.last h0, fun s d hs => ?_⟩
  · have r := h.recs s d
    refine ⟨fun k => ?_, ?_, ?_, ?_, ?_, ?_⟩
    · rw [← waitsP_congr s d k n e]
      rcases r.waits k with x | ⟨i, hi, x, y, w⟩ | x
      · exact .inl x
      · exact .inr (.inl ⟨i, hi, x, by rw [← e i hi]; exact y, w⟩)
      · exact .inr (.inr x)
    · rw [← openedP_congr s d n e]; exact r.opened
    · rw [← overP_congr s d n e]; exact r.over
    · rw [← wrP_congr s d n hw e]; exact r.wrote
    · rw [← takenP_congr s d n e]; exact r.read
    · rw [← takenP_congr s d n e]; exact r.readOver
  · rw [← takenP_congr s d n e, ← wroteR_congr _ d n hw e]; exact h.room s d hs
/-- A call on a judge leaves rows of entries as they lay. -/
theorem OwnR.kj {C : Nat} {w w' : World} {B : Nat} {t : TypeId} {v : Value} {n : Nat} {z : Nat → En} (h : OwnR w B t v n z) (k : KJ C w w') (h1 : t ≠ 50) (h2 : t ≠ 67) : OwnR w' B t v n z := by
  refine ⟨h.1, ?_⟩
  rcases h.2 with h0 | ⟨g, cap, cur, e1, e2, e3, rest⟩
  · exact .inl h0
  · exact .inr ⟨g, cap, cur, e1, e2, k.keep g cur t (0, 0) e3 h1 h2, rest⟩
/-- An append to such a row leaves a judge as it lay. -/
theorem JAt.grown {B gj C m : Nat} {js : JS} {L : List (Nat × Nat × Nat)} {W W1 : World} {o : Obj} {v : Value} {z : Nat → En} {t : TypeId} (h : JAt B gj js L W) (r : OwnR W C t v m z) (h1 : t ≠ 50) (h2 : t ≠ 67) (hg : (W.alloc o).grownBy W1 v.ownBlock) : JAt B gj js L W1 := by
  have key : ∀ (j : Nat) (x : Obj), W.heap[j]? = some x → (∀ cur, x ≠ .cells cur t (0, 0)) → W1.heap[j]? = some x := by
    intro j x hx hne
    have hj : j < W.heap.size := (Array.getElem?_eq_some_iff.1 hx).1
    refine ((hg.block j (by rw [World.size_alloc]; omega) fun e => ?_).trans (Below.heap_alloc _ _ _ hj)).trans hx
    rcases r.2 with ⟨rfl, _⟩ | ⟨g, cap, cur, rfl, _, e3, _⟩
    · simp [Value.ownBlock] at e
    · obtain rfl : g = j := by first | (simpa [Value.ownBlock] using e) | (simpa [Value.ownBlock] using e.symm)
      rw [hx] at e3
      injection e3 with e3
      exact hne _ e3
  obtain ⟨gm, g1, g2, g3⟩ := h.row
  refine ⟨h.ge, ⟨gm, g1, key _ _ g2 (fun cur e => ?_), key _ _ g3 (fun cur e => by cases e)⟩, ⟨fun x hx => ?_, h.recs.keys, h.recs.apart, h.recs.rest⟩⟩
  · injection e with _ e; exact h1 e.symm
  · obtain ⟨h4, h5⟩ := h.recs.blk x hx
    exact ⟨h4, key _ _ h5 (fun cur e => by injection e with _ e; exact h2 e.symm)⟩
/-- And rows that were there ahead of it. -/
theorem KJ.grown {B m : Nat} {w0 W W1 : World} {o : Obj} {v : Value} {z : Nat → En} {t : TypeId} (h : KJ B w0 W) (hB : B ≤ w0.heap.size) (r : OwnR W w0.heap.size t v m z) (hg : (W.alloc o).grownBy W1 v.ownBlock) : KJ B w0 W1 := by
  have hs := h.below.size
  refine ⟨h.below.trans (own_grown (r.base hB) (by omega) hg), fun j cs t' fr e1 e2 e3 => ?_⟩
  have hj : j < w0.heap.size := (Array.getElem?_eq_some_iff.1 e1).1
  refine ((hg.block j (by rw [World.size_alloc]; omega) fun e => ?_).trans (Below.heap_alloc _ _ _ (by omega))).trans (h.keep j cs t' fr e1 e2 e3)
  rcases r.2 with ⟨rfl, _⟩ | ⟨g, cap, cur, rfl, hge, _, _⟩
  · simp [Value.ownBlock] at e
  · obtain rfl : g = j := by first | (simpa [Value.ownBlock] using e) | (simpa [Value.ownBlock] using e.symm)
    omega
theorem OwnR.congr {w : World} {B : Nat} {t : TypeId} {v : Value} {n : Nat} {z z' : Nat → En} (h : OwnR w B t v n z) (e : ∀ i, i < n → z i = z' i) : OwnR w B t v n z' := by
  have h' := h
  unfold OwnR at h' ⊢
  rw [← rowC_congr n e]
  exact h'
/-- The row as it is to be. -/
def putZ (z : Nat → En) (m : Nat) (e : En) (i : Nat) : En := if i = m then e else z i
theorem putZ_lt (z : Nat → En) (m : Nat) (e : En) : ∀ i, i < m → z i = putZ z m e i := fun i hi => by unfold putZ; rw [if_neg (by omega)]
theorem putZ_at (z : Nat → En) (m : Nat) (e : En) : putZ z m e m = e := if_pos rfl

set_option maxRecDepth 100000 in
set_option maxHeartbeats 4000000 in
theorem lawAccepts_any (a : Option Addr) (n ca : Nat) (z : Nat → En) (w : World) (hE : HoldsE w a n z) (hb : (n ≤ maxLen ∧ ∀ j, j < n → -9223372036854775808 ≤ (z j).step ∧ (z j).step ≤ 9223372036854775807 ∧ (z j).side ≤ 255 ∧ (z j).kind ≤ 255 ∧ (z j).dlci ≤ 255 ∧ -9223372036854775808 ≤ (z j).id ∧ (z j).id ≤ 9223372036854775807 ∧ -9223372036854775808 ≤ (z j).n ∧ (z j).n ≤ 9223372036854775807 ∧ (z j).data.size ≤ maxLen ∧ -9223372036854775808 ≤ (z j).err ∧ (z j).err ≤ 9223372036854775807)) :
    Calls Try.prog 3 #[.slice a n ca] w fun e w' => e = .returned (.bool true) ∧ Below w.heap.size w w' := by
  have HF := hide (few_any a n ca z 60 w hE (by decide))
  have HB := hide hb
  clear hb
  go_enter Try.func3, Try.ntmps3
  go_wp2_with fail
  refine HF.out.mono ?_
  rintro e w1 ⟨b, rfl, hfew, b1⟩
  clear HF
  cases b with
  | false =>
    clear hfew
    go_wp2_with fail
    refine (works_any _).mono ?_
    rintro e w2 ⟨rfl, b2⟩
    have bw2 := below_step b1 (Nat.le_refl _) b2
    go_wp2
    go_ret
    exact ⟨rfl, bw2⟩
  | true =>
    obtain ⟨hn, hsm⟩ := hfew rfl
    have hok : ∀ i, i < n → EnOk (z i) := fun i hi => by
      obtain ⟨_, _, x1, x2, x3, _, _, x4, x5, _⟩ := HB.out.2 i hi
      exact ⟨x1, x2, x3, x4, x5, hsm i hi⟩
    have HOK := hide hok
    clear hfew hsm hok
    have hE1 := hE.below b1
    go_wp2_with fail
    refine (haccepts_any a n ca z _ hE1 (by omega) HOK.out).mono ?_
    rintro e w2 ⟨k, ok, rfl, hA, b2⟩
    have bw2 := below_step b1 (Nat.le_refl _) b2
    have hE2 := hE1.below b2
    have HA := hide hA
    clear b2 hE1 hA
    go_wp2_with fail
    refine (ref_any a n ca z _ hE2 (by omega)).mono ?_
    rintro e w3 ⟨v, rfl, hv, b3⟩
    have bw3 := below_step bw2 (Nat.le_refl _) b3
    obtain ⟨a', ca', rfl, hca, hE3⟩ := OwnR.holds hv
    clear hv b3
    go_wp2_with fail
    refine (raccepts_any a' n ca' z _ hE3 (by omega) hca HOK.out).mono ?_
    rintro e w4 ⟨k', ok', rfl, hA', b4⟩
    have bw4 := below_step bw3 (Nat.le_refl _) b4
    clear b4 hE3
    obtain ⟨rfl, rfl⟩ := HA.out.unique hA'
    clear hA'
    go_wp2_with fail
    refine (works_any _).mono ?_
    rintro e w5 ⟨rfl, b5⟩
    have bw5 := below_step bw4 (Nat.le_refl _) b5
    go_wp2
    go_ret
    exact ⟨by first | rfl | simp, bw5⟩

set_option maxRecDepth 100000 in
set_option maxHeartbeats 8000000 in
theorem lawGoes_any (a : Option Addr) (n ca : Nat) (z : Nat → En) (w : World) (hE : HoldsE w a n z) (hb : (n ≤ maxLen ∧ ∀ j, j < n → -9223372036854775808 ≤ (z j).step ∧ (z j).step ≤ 9223372036854775807 ∧ (z j).side ≤ 255 ∧ (z j).kind ≤ 255 ∧ (z j).dlci ≤ 255 ∧ -9223372036854775808 ≤ (z j).id ∧ (z j).id ≤ 9223372036854775807 ∧ -9223372036854775808 ≤ (z j).n ∧ (z j).n ≤ 9223372036854775807 ∧ (z j).data.size ≤ maxLen ∧ -9223372036854775808 ≤ (z j).err ∧ (z j).err ≤ 9223372036854775807)) :
    Calls Try.prog 4 #[.slice a n ca] w fun e w' => e = .returned (.bool true) ∧ Below w.heap.size w w' := by
  obtain ⟨i0, hi0, hz0, hz1, hz2⟩ := info_parts refrow
  have HF := hide (few_any a n ca z 40 w hE (by decide))
  have HB := hide hb
  clear hb
  go_enter Try.func4, Try.ntmps4
  go_wp2_with fail
  refine HF.out.mono ?_
  rintro e w1 ⟨b, rfl, hfew, b1⟩
  clear HF
  cases b with
  | false =>
    clear hfew
    go_wp2_with fail
    refine (works_any _).mono ?_
    rintro e w2 ⟨rfl, b2⟩
    have bw2 := below_step b1 (Nat.le_refl _) b2
    go_wp2
    go_ret
    exact ⟨rfl, bw2⟩
  | true =>
    obtain ⟨hn, hsm⟩ := hfew rfl
    have hok : ∀ i, i < n → EnOk (z i) := fun i hi => by
      obtain ⟨_, _, x1, x2, x3, _, _, x4, x5, _⟩ := HB.out.2 i hi
      exact ⟨x1, x2, x3, x4, x5, hsm i hi⟩
    have HOK := hide hok
    clear hfew hsm hok HB
    have hE1 := hE.below b1
    have HE := hide hE
    clear hE
    go_wp2_with fail
    refine (hnew_any w1).mono ?_
    rintro e w2 ⟨rfl, J2, b2⟩
    have bw2 := below_step b1 (Nat.le_refl _) b2
    have hE2 := hE1.below b2
    have hB1 : w.heap.size ≤ w1.heap.size := b1.size
    clear b2 hE1 b1
    go_wp2_with fail
    refine (ref_any a n ca z _ hE2 (by omega)).mono ?_
    rintro e w3 ⟨v, rfl, hv, b3⟩
    have bw3 := below_step bw2 (Nat.le_refl _) b3
    have J3 := J2.below b3
    obtain ⟨a', ca', rfl, hca, hE3⟩ := OwnR.holds hv
    have hB3 : w.heap.size ≤ w3.heap.size := bw3.size
    have hB13 : w1.heap.size ≤ w3.heap.size := Nat.le_trans J3.ge (Nat.le_of_lt J3.lt)
    clear b3 J2 bw2 hE2 hE3
    go_wp2
    go_loopw [4, 6, 7] (fun v i _ wr => ∃ (k m : Nat) (js : JS) (L : List (Nat × Nat × Nat)) (zt : Nat → En), k ≤ n ∧ m ≤ k ∧ i = .int .i64 (k : Int) ∧ JAt w1.heap.size (w1.heap.size + 1) js L wr ∧ KJ w.heap.size w3 wr ∧ OwnR wr w3.heap.size 36 v m zt ∧ Rel js zt m ∧ Wf zt m) (fun _ i _ _ => n - (intOf i).toNat)
    case atStart => exact ⟨0, 0, zJ, [], fun _ => zE, by omega, by omega, rfl, J3, KJ.refl _ _, World.ownsRow_nil _ _ _ _, rel_zero _, ⟨fun i hi => by omega, fun i hi => by omega⟩⟩
    case round =>
      obtain ⟨k, m, js, L, zt0, hkn, hmk, rfl, J, kj, hrow0, hR0, hW0⟩ := hrel
      have bwr := bw3.trans kj.below
      by_cases hkl : k < n
      · have hkl' : (k : Int) < (n : Int) := by omega
        obtain ⟨zt, hzt⟩ : ∃ zt, putZ zt0 m (z k) = zt := ⟨_, rfl⟩
        have hR := hR0.congr hW0 (putZ_lt zt0 m (z k))
        have hW := hW0.congr (putZ_lt zt0 m (z k))
        have hrow := OwnR.congr hrow0 (putZ_lt zt0 m (z k))
        have hzm := putZ_at zt0 m (z k)
        rw [hzt] at hR hW hzm hrow
        clear hR0 hW0 hrow0 hzt
        obtain ⟨a1, ca1, rfl, hca1, hE4⟩ := OwnR.holds hrow
        have hEa := (OwnR.kj hv kj (by decide) (by decide))
        obtain ⟨a2, ca2, e2, hca2, hEa'⟩ := OwnR.holds hEa
        obtain ⟨rfl, rfl⟩ : a2 = a' ∧ ca2 = ca' := by injection e2 with q1 q2 q3; exact ⟨q1.symm, q3.symm⟩
        clear e2 hEa
        obtain ⟨lb, lo, rfl, hlb, hlc⟩ := HE.out (by omega)
        obtain ⟨rb, ro, rfl, hrb, hrc⟩ := hEa' (by omega)
        have hl3 := fun j hj => (bwr.cell (p := ⟨lb, _, none⟩) hlb).trans (hlc k hkl j hj)
        have hl4 := hrc k hkl
        have ho := HOK.out k hkl
        obtain ⟨s1, s2, s3⟩ := step_ok hR hW (by rw [hzm]; exact ho.small) (by rw [hzm]; exact ⟨ho.n0, ho.n1⟩) (by omega)
        have hbd := fun d (hs : (zt m).side ≤ 1) => rel_bounds hR hW (by omega) (zt m).side d hs
        rw [hzm] at s1 s2 s3 hbd
        have HW2 := hide (fun x => s3 x)
        have HS2 := hide s2
        have HS1 := hide s1
        clear s1 s2 s3
        obtain ⟨X, hX⟩ : ∃ X, entryJ js (z k) = X := ⟨_, rfl⟩
        rw [hX] at HW2 HS1 HS2
        have hsu : rowC zt (m + 1) = rowC zt m ++ (enA (z k)).toList := by rw [← hzm]; rfl
        have h1c := one9 (z k)
        obtain ⟨b, hb⟩ : ∃ b, rightR zt m (z k) = b := ⟨_, rfl⟩
        rw [hb] at HW2 HS1 HS2
        have HZM := hide hzm
        clear hzm
        obtain ⟨e, hze⟩ : ∃ e, z k = e := ⟨_, rfl⟩
        rw [hze] at hl3 hl4 ho hX hbd hb hsu h1c
        have HZE := hide hze
        clear hze hlc hrc
        obtain ⟨st, sd, kd, dl, en, id, nn, dt, er⟩ := e
        obtain ⟨e0, e1, e2, e3, e4, e5, e6, e7, e8⟩ := en_at hl3
        obtain ⟨f0, f1, f2, f3, f4, f5, f6, f7, f8⟩ := en_at hl4
        simp only [enA] at hsu h1c
        have HSU := hide hsu
        have H1 := hide h1c
        have HBB := hide hb
        have hB : w.heap.size ≤ wr.heap.size := bwr.size
        have hB3r : w3.heap.size ≤ wr.heap.size := kj.below.size
        have HC := hide (fun (W : World) J => entry_any w1.heap.size (w1.heap.size + 1) js L st sd kd dl en id nn dt er W (fun hs => (by obtain ⟨x1, x2, x3, x4⟩ := hbd dl hs; exact ⟨x1, x2, x3, x4⟩)) (Nat.le_trans ho.small (by decide)) J)
        rw [hX] at HC
        have hdt : dt.size ≤ 1000 := Nat.le_trans ho.small (by decide)
        clear hl3 hl4 hX hbd hsu h1c hb ho hEa'
        go_wp2_with fail
        refine (right_any a1 m ca1 zt st sd kd dl en id nn dt er _ hE4 (by omega) hW hca1 hdt).mono ?_
        rintro e w4 ⟨rfl, b4⟩
        have bw4 := below_step bwr (Nat.le_refl _) b4
        have J4 := J.below b4
        have k4 := kj.trans (KJ.ofBelow hB b4)
        have hrow4 := OwnR.below hrow b4
        have hB3r4 : w3.heap.size ≤ w4.heap.size := k4.below.size
        rw [HBB.out]
        replace e0 := (b4.cell (p := ⟨lb, _, none⟩) (Nat.lt_of_lt_of_le hlb hB)).trans e0
        replace e1 := (b4.cell (p := ⟨lb, _, none⟩) (Nat.lt_of_lt_of_le hlb hB)).trans e1
        replace e2 := (b4.cell (p := ⟨lb, _, none⟩) (Nat.lt_of_lt_of_le hlb hB)).trans e2
        replace e3 := (b4.cell (p := ⟨lb, _, none⟩) (Nat.lt_of_lt_of_le hlb hB)).trans e3
        replace e4 := (b4.cell (p := ⟨lb, _, none⟩) (Nat.lt_of_lt_of_le hlb hB)).trans e4
        replace e5 := (b4.cell (p := ⟨lb, _, none⟩) (Nat.lt_of_lt_of_le hlb hB)).trans e5
        replace e6 := (b4.cell (p := ⟨lb, _, none⟩) (Nat.lt_of_lt_of_le hlb hB)).trans e6
        replace e7 := (b4.cell (p := ⟨lb, _, none⟩) (Nat.lt_of_lt_of_le hlb hB)).trans e7
        replace e8 := (b4.cell (p := ⟨lb, _, none⟩) (Nat.lt_of_lt_of_le hlb hB)).trans e8
        clear b4 J kj hrow hE4 f0 f1 f2 f3 f4 f5 f6 f7 f8
        go_wp2_with fail
        refine (HC.out _ J4).mono ?_
        rintro e w5 ⟨L5, rfl, J5, k5⟩
        have k5' : KJ w.heap.size w4 w5 := ⟨k5.below.mono hB1, k5.keep⟩
        have k6 := k4.trans k5'
        have bw6 := bw3.trans k6.below
        have hrow6 := OwnR.kj hrow4 k5 (by decide) (by decide)
        have hB36 : w3.heap.size ≤ w5.heap.size := k6.below.size
        rw [HS1.out]
        clear HC J4 k4 hrow4 k5 k5' e0 e1 e2 e3 e4 e5 e6 e7 e8
        have hEa := (OwnR.kj hv k6 (by decide) (by decide))
        obtain ⟨a2, ca2, e2, hca2, hEa'⟩ := OwnR.holds hEa
        obtain ⟨lb2, lo2, e3, hlb2, hlc2⟩ := hEa' (by omega)
        obtain ⟨rfl, rfl⟩ : lb2 = rb ∧ lo2 = ro := by rw [e3] at e2; injection e2 with q1 q2 q3; injection q1 with q1; injection q1 with q1 q4; exact ⟨q1.symm, q4.symm⟩
        have hl5 := hlc2 k hkl
        rw [HZE.out] at hl5
        clear hEa e2 e3 hEa' hlc2
        obtain ⟨f0, f1, f2, f3, f4, f5, f6, f7, f8⟩ := en_at hl5
        cases b with
        | false =>
          have hjs := HS2.out rfl
          go_wp2
          go_roundw
          case rel => exact ⟨k + 1, m, js, L5, zt, hkl, by omega, by go_num, by rw [← hjs]; exact J5, k6, hrow6, hR, hW⟩
          case measure => simp [intOf]; omega
        | true =>
          obtain ⟨hR2, hW3⟩ := HW2.out rfl
          go_wp2_with (at_builtin; refine wpList_append_own_at _ rfl (.tmp 36) (.tmp 41) 28 rfl w3.heap.size 36 i0 zV 9 56 Try.underlying28 hi0 hz0 hz1 hz2 rfl (by decide) _ _ _ rfl (hrow6.alloc _) ⟨w5.heap.size, 0, none⟩ 1 1 [.int .i64 st, .int .u8 (sd : Int), .int .u8 (kd : Int), .int .u8 (dl : Int), .bool en, .int .i64 id, .int .i64 nn, .string dt, .int .i64 er] rfl rfl (cells_new _ _ _) H1.out (by unfold maxLen; omega) (by omega) (by simp; omega) ?_; intro v' w6 hown' hgrow _ hat')
          have k7 := KJ.grown k6 hB3 hrow6 hgrow
          have J7 := JAt.grown J5 hrow6 (by decide) (by decide) hgrow
          go_roundw
          case rel => exact ⟨k + 1, m + 1, X.1, L5, zt, hkl, by omega, by go_num, J7, k7, by unfold OwnR; rw [HSU.out]; exact hown', hR2, hW3⟩
          case measure => simp [intOf]; omega
      · obtain rfl : k = n := by omega
        go_wp2_with fail
        refine (works_any _).mono ?_
        rintro e w6 ⟨rfl, b6⟩
        have bw6 := below_step bwr (Nat.le_refl _) b6
        go_wp2
        go_ret
        exact ⟨rfl, bw6⟩
end Go.Proofs.Ytkikonknciffiaa
