/- HistoryApart: the walk. -/
import Derived.Test.YtkikonknciffiaaHsIdl
import Derived.Test.YtkikonknciffiaaHsLaws
namespace Go.Proofs.Ytkikonknciffiaa
open Go.RowKit
set_option linter.unusedVariables false
set_option linter.unusedSimpArgs false

/-- The places of those that stay. -/
def keepL (p : Nat → Bool) (z : Nat → En) (n : Nat) : List Nat := (List.range n).filter (fun i => p (z i).dlci)
theorem keepL_succ (p : Nat → Bool) (z : Nat → En) (n : Nat) : keepL p z (n + 1) = keepL p z n ++ (if p (z n).dlci = true then [n] else []) := by
  unfold keepL
  rw [List.range_succ, List.filter_append]
  congr 1
  by_cases h : p (z n).dlci = true <;> simp [h]
theorem keepL_pre (p : Nat → Bool) (z : Nat → En) (k : Nat) : ∀ d, ∃ t, keepL p z (k + d) = keepL p z k ++ t := by
  intro d
  induction d with
  | zero => exact ⟨[], by simp⟩
  | succ d ih =>
    obtain ⟨t, ht⟩ := ih
    rw [← Nat.add_assoc, keepL_succ, ht, List.append_assoc]
    exact ⟨_, rfl⟩
theorem keepL_le (p : Nat → Bool) (z : Nat → En) : ∀ k, (keepL p z k).length ≤ k := by
  intro k
  induction k with
  | zero => exact Nat.le_refl _
  | succ k ih =>
    rw [keepL_succ, List.length_append]
    split
    · simp only [List.length_singleton]; omega
    · simp only [List.length_nil]; omega
/-- The row of those that stay. -/
def keepZ (p : Nat → Bool) (z : Nat → En) (n : Nat) (j : Nat) : En := z ((keepL p z n).getD j 0)
theorem keepZ_at {p : Nat → Bool} {z : Nat → En} {n k : Nat} (hk : k < n) (h : p (z k).dlci = true) : keepZ p z n (keepL p z k).length = z k := by
  unfold keepZ
  obtain ⟨t, ht⟩ := keepL_pre p z (k + 1) (n - (k + 1))
  rw [show k + 1 + (n - (k + 1)) = n by omega] at ht
  rw [ht, keepL_succ, if_pos h]
  simp
structure Fil (p : Nat → Bool) (z : Nat → En) (k : Nat) (y : Nat → En) (m : Nat) : Prop where
  sub : Sub p z k y m
  right : ∀ j, j < m → rightR y j (y j) = true
  ok : ∀ j, j < m → EnOk (y j)
theorem Fil.zero (p : Nat → Bool) (z y : Nat → En) : Fil p z 0 y 0 := ⟨Sub.zero p z y, fun j hj => by omega, fun j hj => by omega⟩
theorem Fil.skip {p : Nat → Bool} {z y : Nat → En} {k m : Nat} (h : Fil p z k y m) (hd : p (z k).dlci = false) (hr : rightR z k (z k) = true) : Fil p z (k + 1) y m := ⟨h.sub.skip hd hr, h.right, h.ok⟩
theorem Fil.take {p : Nat → Bool} {z y : Nat → En} {k m : Nat} (h : Fil p z k y m) (hd : p (z k).dlci = true) (hr : rightR z k (z k) = true) (ho : EnOk (z k)) (hy : y m = z k) : Fil p z (k + 1) y (m + 1) := by
  refine ⟨h.sub.take hy hr, fun j hj => ?_, fun j hj => ?_⟩
  · by_cases e : j = m
    · subst e; rw [hy]; exact h.sub.right _ hd hr
    · exact h.right j (by omega)
  · by_cases e : j = m
    · subst e; rw [hy]; exact ho
    · exact h.ok j (by omega)
theorem Fil.acc {p : Nat → Bool} {z y : Nat → En} {k m : Nat} (h : Fil p z k y m) : AccR y m m true := ⟨Nat.le_refl _, h.right, fun _ => rfl, fun x => (by cases x)⟩
/-- Another row of the call's own stays as it lay. -/
theorem OwnR.other {W W' : World} {B n : Nat} {t : TypeId} {v u : Value} {z : Nat → En} {o : Obj} (h : OwnR W B t v n z) (ha : ∀ g, v.ownBlock = some g → u.ownBlock ≠ some g) (hg : (W.alloc o).grownBy W' u.ownBlock) : OwnR W' B t v n z := by
  refine ⟨h.1, ?_⟩
  rcases h.2 with h0 | ⟨g, cap, cur, e1, e2, e3, rest⟩
  · exact .inl h0
  · refine .inr ⟨g, cap, cur, e1, e2, ?_, rest⟩
    have hlt : g < W.heap.size := (Array.getElem?_eq_some_iff.1 e3).1
    exact ((hg.block g (by rw [World.size_alloc]; omega) (fun e => ha g (by rw [e1]; rfl) (by first | exact e | exact e.symm))).trans (Below.heap_alloc _ _ _ hlt)).trans e3
theorem OwnR.blk_lt {W : World} {B n : Nat} {t : TypeId} {v : Value} {z : Nat → En} (h : OwnR W B t v n z) (g : Nat) (hg : v.ownBlock = some g) : g < W.heap.size := by
  rcases h.2 with ⟨rfl, _⟩ | ⟨g', cap, cur, rfl, _, e3, _⟩
  · cases hg
  · have : g' = g := by simpa [Value.ownBlock] using hg
    subst this
    exact (Array.getElem?_eq_some_iff.1 e3).1
theorem own_apart {W : World} {B m : Nat} {t : TypeId} {v u v' : Value} {y : Nat → En} {o : Obj} (hu : OwnR W B t u m y) (ha : ∀ g, v.ownBlock = some g → u.ownBlock ≠ some g) (hv' : v'.ownBlock = v.ownBlock ∨ v'.ownBlock = some (W.alloc o).heap.size) : ∀ g, v'.ownBlock = some g → u.ownBlock ≠ some g := by
  intro g h1 h2
  rcases hv' with e | e
  · rw [e] at h1; exact ha g h1 h2
  · rw [e] at h1
    injection h1 with h1
    have := hu.blk_lt g h2
    rw [World.size_alloc] at h1
    omega
set_option maxRecDepth 100000 in
set_option maxHeartbeats 8000000 in
theorem lawApart_any (a : Option Addr) (n ca : Nat) (z : Nat → Ac) (x : Nat) (w : World) (hE : HoldsA w a n z) (hb : n ≤ maxLen ∧ ∀ j, j < n → (z j).what ≤ 255 ∧ (z j).side ≤ 255 ∧ (z j).kind ≤ 255 ∧ (z j).dlci ≤ 255 ∧ -9223372036854775808 ≤ (z j).n ∧ (z j).n ≤ 9223372036854775807 ∧ (z j).data.size ≤ maxLen) (hx : x ≤ 255) :
    Calls Try.prog 6 #[.slice a n ca, .int .u8 (x : Int)] w fun e w' => e = .returned (.bool true) ∧ Below w.heap.size w w' := by
  obtain ⟨i0, hi0, hz0, hz1, hz2⟩ := info_parts wrldrow
  have HF := hide (acts_any a n ca z 60 w hE (by decide))
  have HB := hide hb
  clear hb
  go_enter Try.func6, Try.ntmps6
  go_wp2_with fail
  refine HF.out.mono ?_
  rintro e w1 ⟨b, rfl, hfew, b1⟩
  clear HF
  cases b with
  | false =>
    clear hfew
    go_wp2_with fail
    refine (works_any _).mono ?_
    rintro e w2 ⟨rfl, b2⟩
    have bw2 := below_step b1 (Nat.le_refl _) b2
    go_wp2
    go_ret
    exact ⟨rfl, bw2⟩
  | true =>
    obtain ⟨hn, hsm⟩ := hfew rfl
    have HI := hide (fun (W : World) (h : HoldsA W a n z) => ideal_any a n ca z W h hn (fun i hi => by
      obtain ⟨x1, x2, x3, x4, x5, x6, _⟩ := HB.out.2 i hi
      exact ⟨x1, x2, x3, x4, x5, x6, hsm i hi⟩))
    clear hfew hsm HB
    have hE1 := hE.below b1
    clear hE
    go_wp2_with fail
    refine (HI.out _ hE1).mono ?_
    rintro e w2 ⟨v, m, zt, rfl, hrow, hm, hI, b2⟩
    have bw2 := below_step b1 (Nat.le_refl _) b2
    obtain ⟨a1, ca1, rfl, hca1, hE2⟩ := OwnR.holds hrow
    have HE2 := hide hE2
    have HI2 := hide hI
    clear hE1 b1 b2 hrow hE2 hI HI
    obtain ⟨c, hc⟩ : ∃ c : Nat, 1 + (x : Int) % 3 = (c : Int) := ⟨1 + x % 3, by omega⟩
    obtain ⟨y1, hy1⟩ : ∃ y1, keepZ (fun d => decide (d = c)) zt m = y1 := ⟨_, rfl⟩
    obtain ⟨y2, hy2⟩ : ∃ y2, keepZ (fun d => !decide (d = c)) zt m = y2 := ⟨_, rfl⟩
    have HY1 := hide hy1
    have HY2 := hide hy2
    clear hy1 hy2
    go_wp2
    go_loopw [6, 7, 8] (fun v u i wr => ∃ k : Nat, k ≤ m ∧ i = .int .i64 (k : Int) ∧ OwnR wr w2.heap.size 38 v (keepL (fun d => decide (d = c)) zt k).length y1 ∧ OwnR wr w2.heap.size 38 u (keepL (fun d => !decide (d = c)) zt k).length y2 ∧ Hid (∀ g, v.ownBlock = some g → u.ownBlock ≠ some g) ∧
      Hid (Fil (fun d => decide (d = c)) zt k y1 (keepL (fun d => decide (d = c)) zt k).length) ∧ Hid (Fil (fun d => !decide (d = c)) zt k y2 (keepL (fun d => !decide (d = c)) zt k).length) ∧ Below w2.heap.size w2 wr) (fun _ _ i _ => m - (intOf i).toNat)
    case atStart => exact ⟨0, by omega, rfl, World.ownsRow_nil _ _ _ _, World.ownsRow_nil _ _ _ _, hide (fun g h => by cases h), hide (Fil.zero _ _ _), hide (Fil.zero _ _ _), Below.refl _ _⟩
    case round =>
      obtain ⟨k, hkn, rfl, hr1, hr2, HA, HF1, HF2, bw⟩ := hrel
      by_cases hkl : k < m
      · have hkl' : (k : Int) < (m : Int) := by omega
        obtain ⟨lb, lo, rfl, hlb, hlc⟩ := HE2.out (by omega)
        have hl3 := fun j hj => (bw.cell (p := ⟨lb, _, none⟩) hlb).trans (hlc k hkl j hj)
        have hrt := HI2.out.right k hkl
        have hok := (HI2.out.en k hkl).ok
        obtain ⟨e, hze⟩ : ∃ e, zt k = e := ⟨_, rfl⟩
        rw [hze] at hl3
        obtain ⟨st, sd, kd, dl, en, id, nn, dt, er⟩ := e
        obtain ⟨e0, e1, e2, e3, e4, e5, e6, e7, e8⟩ := en_at hl3
        clear hl3 hlc
        by_cases hd : dl = c
        · subst hd
          have hp1 : (fun d => decide (d = dl)) (zt k).dlci = true := by rw [hze]; exact decide_eq_true rfl
          have hp2 : (fun d => !decide (d = dl)) (zt k).dlci = false := by rw [hze]; show (!decide (dl = dl)) = false; rw [decide_eq_true rfl]; rfl
          have hym := keepZ_at (p := fun d => decide (d = dl)) hkl hp1
          rw [HY1.out] at hym
          have hsu : rowC y1 ((keepL (fun d => decide (d = dl)) zt k).length + 1) = rowC y1 (keepL (fun d => decide (d = dl)) zt k).length ++ (enA (zt k)).toList := by rw [← hym]; rfl
          have h1c := one9 (zt k)
          rw [hze] at hsu h1c
          simp only [enA] at hsu h1c
          have HSU := hide hsu
          have H1 := hide h1c
          have hF1 := HF1.out.take hp1 hrt hok hym
          have hF2 := HF2.out.skip hp2 hrt
          have hl1 := keepL_succ (fun d => decide (d = dl)) zt k
          have hl2 := keepL_succ (fun d => !decide (d = dl)) zt k
          rw [if_pos hp1] at hl1
          rw [if_neg (Bool.eq_false_iff.1 hp2)] at hl2
          have hn1 : (keepL (fun d => decide (d = dl)) zt (k + 1)).length = (keepL (fun d => decide (d = dl)) zt k).length + 1 := by rw [hl1]; simp
          have hn2 : (keepL (fun d => !decide (d = dl)) zt (k + 1)).length = (keepL (fun d => !decide (d = dl)) zt k).length := by rw [hl2]; simp
          have HF1' := hide hF1
          have HF2' := hide hF2
          have HN1 := hide hn1
          have HN2 := hide hn2
          have hla := keepL_le (fun d => decide (d = dl)) zt k
          have hBz : w2.heap.size ≤ wr.heap.size := bw.size
          have hap := hide (show ∀ g, u6.ownBlock = some g → u7.ownBlock ≠ some g from HA.out)
          clear hsu h1c hym hl1 hl2 hn1 hn2 hF1 hF2 HF1 HF2 HA
          generalize hLA : (keepL (fun d => decide (d = dl)) zt k).length = LA at *
          go_upto_region 9 with (fail)
          go_wp2_with (at_builtin; refine wpList_append_own_at _ rfl (.tmp 34) (.tmp 39) 22 rfl w2.heap.size 38 i0 zV 9 56 Try.underlying22 hi0 hz0 hz1 hz2 rfl (by decide) _ _ _ rfl (hr1.alloc _) ⟨wr.heap.size, 0, none⟩ 1 1 [.int .i64 st, .int .u8 (sd : Int), .int .u8 (kd : Int), .int .u8 (dl : Int), .bool en, .int .i64 id, .int .i64 nn, .string dt, .int .i64 er] rfl rfl (cells_new _ _ _) H1.out (by unfold maxLen; omega) (by omega) (by simp; omega) ?_; intro v' w6 hown' hgrow _ hat')
          have b6 := own_grown hr1 bw.size hgrow
          have ho6 := OwnR.other hr2 (fun g h h' => hap.out g h' h) hgrow
          have hap6 := own_apart hr2 hap.out hat'
          go_roundw
          case rel => exact ⟨k + 1, hkl, by go_num, by unfold OwnR; rw [HN1.out, HSU.out]; exact hown', by rw [HN2.out]; exact ho6, hide hap6, by rw [HN1.out]; exact HF1', by rw [HN2.out]; exact HF2', bw.trans b6⟩
          case measure => simp [intOf]; omega
        · have hd' : ((dl : Int) == (c : Int)) = false := beq_eq_false_iff_ne.2 (by omega)
          have hp1 : (fun d => decide (d = c)) (zt k).dlci = false := by rw [hze]; exact decide_eq_false hd
          have hp2 : (fun d => !decide (d = c)) (zt k).dlci = true := by rw [hze]; show (!decide (dl = c)) = true; rw [decide_eq_false hd]; rfl
          have hym := keepZ_at (p := fun d => !decide (d = c)) hkl hp2
          rw [HY2.out] at hym
          have hsu : rowC y2 ((keepL (fun d => !decide (d = c)) zt k).length + 1) = rowC y2 (keepL (fun d => !decide (d = c)) zt k).length ++ (enA (zt k)).toList := by rw [← hym]; rfl
          have h1c := one9 (zt k)
          rw [hze] at hsu h1c
          simp only [enA] at hsu h1c
          have HSU := hide hsu
          have H1 := hide h1c
          have hF1 := HF1.out.skip hp1 hrt
          have hF2 := HF2.out.take hp2 hrt hok hym
          have hl1 := keepL_succ (fun d => decide (d = c)) zt k
          have hl2 := keepL_succ (fun d => !decide (d = c)) zt k
          rw [if_neg (Bool.eq_false_iff.1 hp1)] at hl1
          rw [if_pos hp2] at hl2
          have hn1 : (keepL (fun d => decide (d = c)) zt (k + 1)).length = (keepL (fun d => decide (d = c)) zt k).length := by rw [hl1]; simp
          have hn2 : (keepL (fun d => !decide (d = c)) zt (k + 1)).length = (keepL (fun d => !decide (d = c)) zt k).length + 1 := by rw [hl2]; simp
          have HF1' := hide hF1
          have HF2' := hide hF2
          have HN1 := hide hn1
          have HN2 := hide hn2
          have hla := keepL_le (fun d => !decide (d = c)) zt k
          have hBz : w2.heap.size ≤ wr.heap.size := bw.size
          have hap := hide (show ∀ g, u7.ownBlock = some g → u6.ownBlock ≠ some g from fun g h h' => HA.out g h' h)
          clear hsu h1c hym hl1 hl2 hn1 hn2 hF1 hF2 HF1 HF2 HA
          generalize hLA : (keepL (fun d => !decide (d = c)) zt k).length = LA at *
          go_upto_region 10 with (fail)
          go_wp2_with (at_builtin; refine wpList_append_own_at _ rfl (.tmp 41) (.tmp 46) 22 rfl w2.heap.size 38 i0 zV 9 56 Try.underlying22 hi0 hz0 hz1 hz2 rfl (by decide) _ _ _ rfl (hr2.alloc _) ⟨wr.heap.size, 0, none⟩ 1 1 [.int .i64 st, .int .u8 (sd : Int), .int .u8 (kd : Int), .int .u8 (dl : Int), .bool en, .int .i64 id, .int .i64 nn, .string dt, .int .i64 er] rfl rfl (cells_new _ _ _) H1.out (by unfold maxLen; omega) (by omega) (by simp; omega) ?_; intro v' w6 hown' hgrow _ hat')
          have b6 := own_grown hr2 bw.size hgrow
          have ho6 := OwnR.other hr1 (fun g h h' => hap.out g h' h) hgrow
          have hap6 := own_apart hr1 hap.out hat'
          go_roundw
          case rel => exact ⟨k + 1, hkl, by go_num, by rw [HN1.out]; exact ho6, by unfold OwnR; rw [HN2.out, HSU.out]; exact hown', hide (fun g h h' => hap6 g h' h), by rw [HN1.out]; exact HF1', by rw [HN2.out]; exact HF2', bw.trans b6⟩
          case measure => simp [intOf]; omega
      · obtain rfl : k = m := by omega
        have hle1 := keepL_le (fun d => decide (d = c)) zt k
        have hle2 := keepL_le (fun d => !decide (d = c)) zt k
        obtain ⟨a3, ca3, rfl, hca3, hE3⟩ := OwnR.holds hr1
        obtain ⟨a4, ca4, rfl, hca4, hE4⟩ := OwnR.holds hr2
        have bwr := bw2.trans (bw.mono bw2.size)
        go_wp2_with fail
        refine (hacc_is a3 _ ca3 y1 _ hE3 (by omega) HF1.out.ok _ true HF1.out.acc).mono ?_
        rintro e w3 ⟨rfl, b3⟩
        have bw3 := below_step bwr (Nat.le_refl _) b3
        have hE5 := hE4.below b3
        clear b3 hE3 hE4 hr1 hr2
        go_wp2_with fail
        refine (hacc_is a4 _ ca4 y2 _ hE5 (by omega) HF2.out.ok _ true HF2.out.acc).mono ?_
        rintro e w4 ⟨rfl, b4⟩
        have bw4 := below_step bw3 (Nat.le_refl _) b4
        clear b4 hE5
        go_wp2_with fail
        refine (works_any _).mono ?_
        rintro e w5 ⟨rfl, b5⟩
        have bw5 := below_step bw4 (Nat.le_refl _) b5
        go_wp2
        go_ret
        exact ⟨rfl, bw5⟩
theorem lawApart_row (a : Option Addr) (n ca : Nat) (z : Nat → Ac) (x : Int) (w : World) (hE : HoldsA w a n z) (hb : n ≤ maxLen ∧ ∀ j, j < n → (z j).what ≤ 255 ∧ (z j).side ≤ 255 ∧ (z j).kind ≤ 255 ∧ (z j).dlci ≤ 255 ∧ -9223372036854775808 ≤ (z j).n ∧ (z j).n ≤ 9223372036854775807 ∧ (z j).data.size ≤ maxLen) (h0 : 0 ≤ x) (h1 : x ≤ 255) :
    Calls Try.prog 6 #[.slice a n ca, .int .u8 x] w fun e w' => e = .returned (.bool true) ∧ Below w.heap.size w w' := by
  obtain ⟨y, rfl⟩ := Int.eq_ofNat_of_zero_le h0
  exact lawApart_any a n ca z y w hE hb (by omega)
end Go.Proofs.Ytkikonknciffiaa
