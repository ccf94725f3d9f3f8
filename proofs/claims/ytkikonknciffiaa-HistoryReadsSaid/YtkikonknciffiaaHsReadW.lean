/- HistoryReads: the walk. -/
import Derived.Test.YtkikonknciffiaaHsReads
import Derived.Deep.CutBlock
import Derived.Laws.BitsAllLaws
namespace Go.Proofs.Ytkikonknciffiaa
open Go.RowKit
set_option linter.unusedVariables false
set_option linter.unusedSimpArgs false

/-- Where the law's first loop stands: both rows of texts. -/
structure RdAt (B g1 g2 : Nat) (f1 f2 : Nat → ByteArray) (w0 W : World) : Prop where
  a : StrRow W g1 f1
  b : StrRow W g2 f2
  ne : g1 ≠ g2
  b1 : B ≤ g1
  b2 : B ≤ g2
  below : Below B w0 W
theorem RdAt.step {B g1 g2 : Nat} {f1 f2 : Nat → ByteArray} {w0 W W' : World} (h : RdAt B g1 g2 f1 f2 w0 W) (hB : B ≤ w0.heap.size) (b : Below W.heap.size W W') : RdAt B g1 g2 f1 f2 w0 W' :=
  ⟨h.a.keep (b.block _ h.a.lt), h.b.keep (b.block _ h.b.lt), h.ne, h.b1, h.b2, h.below.trans (b.mono (Nat.le_trans hB h.below.size))⟩
theorem RdAt.putA {B g1 g2 : Nat} {f1 f2 f' : Nat → ByteArray} {w0 W : World} (h : RdAt B g1 g2 f1 f2 w0 W) {j : Nat} (s : ByteArray) (hj : j < 8) (hf : ∀ q, q < 8 → f' q = if q = j then s else f1 q) : RdAt B g1 g2 f' f2 w0 (W.setCell ⟨g1, j, none⟩ (.string s)) :=
  ⟨h.a.put s hj hf, h.b.keep (Below.heap_setCell _ _ _ _ (Ne.symm h.ne)), h.ne, h.b1, h.b2, h.below.setCell (p := ⟨g1, j, none⟩) h.b1 _⟩
theorem RdAt.putB {B g1 g2 : Nat} {f1 f2 f' : Nat → ByteArray} {w0 W : World} (h : RdAt B g1 g2 f1 f2 w0 W) {j : Nat} (s : ByteArray) (hj : j < 8) (hf : ∀ q, q < 8 → f' q = if q = j then s else f2 q) : RdAt B g1 g2 f1 f' w0 (W.setCell ⟨g2, j, none⟩ (.string s)) :=
  ⟨h.a.keep (Below.heap_setCell _ _ _ _ h.ne), h.b.put s hj hf, h.ne, h.b1, h.b2, h.below.setCell (p := ⟨g2, j, none⟩) h.b2 _⟩
theorem wrF_put {z : Nat → En} {n : Nat} (hs : (z n).side ≤ 1) (h1 : (z n).kind = 3) (h2 : (z n).ends = false) : ∀ q, q < 8 → wrF z (n + 1) q = if q = (z n).side + 2 * (z n).dlci then wrF z n ((z n).side + 2 * (z n).dlci) ++ (z n).data else wrF z n q := by
  intro q hq
  rw [wrF_succ]
  by_cases h : q = (z n).side + 2 * (z n).dlci
  · rw [if_pos h, if_pos ⟨h1, h2, by omega, by omega⟩, ← h]
  · rw [if_neg h, if_neg]
    rintro ⟨_, _, x, y⟩
    omega
theorem rdF_put {z : Nat → En} {n : Nat} (hs : (z n).side ≤ 1) (h1 : (z n).kind = 4) (h2 : (z n).ends = true) : ∀ q, q < 8 → rdF z (n + 1) q = if q = 1 - (z n).side + 2 * (z n).dlci then rdF z n (1 - (z n).side + 2 * (z n).dlci) ++ (z n).data else rdF z n q := by
  intro q hq
  rw [rdF_succ]
  by_cases h : q = 1 - (z n).side + 2 * (z n).dlci
  · rw [if_pos h, if_pos ⟨h1, h2, by omega, by omega⟩, ← h]
  · rw [if_neg h, if_neg]
    rintro ⟨_, _, x, y⟩
    omega
theorem wrF_same {z : Nat → En} {n : Nat} (h : ¬ ((z n).kind = 3 ∧ (z n).ends = false)) : wrF z (n + 1) = wrF z n := by
  funext q
  rw [wrF_succ, if_neg]
  rintro ⟨x, y, _⟩
  exact h ⟨x, y⟩
theorem rdF_same {z : Nat → En} {n : Nat} (h : ¬ ((z n).kind = 4 ∧ (z n).ends = true)) : rdF z (n + 1) = rdF z n := by
  funext q
  rw [rdF_succ, if_neg]
  rintro ⟨x, y, _⟩
  exact h ⟨x, y⟩
theorem RdAt.still {B g1 g2 : Nat} {f1 f2 : Nat → ByteArray} {w0 W W' : World} (h : RdAt B g1 g2 f1 f2 w0 W) (k : Still W W') : RdAt B g1 g2 f1 f2 w0 W' := by
  obtain ⟨n, rfl⟩ := k
  exact ⟨h.a, h.b, h.ne, h.b1, h.b2, below_drewN h.below n⟩
theorem pre_all {z : Nat → En} {n : Nat} (hI : Idl z n) (q : Nat) : ∃ t, wrF z n q = rdF z n q ++ t := read_pre (q % 2) (q / 2) (by omega) n hI
theorem HoldsE.set_ne {w : World} {g g' n q : Nat} {z : Nat → En} {v : Value} (h : HoldsE w (some ⟨g, 0, none⟩) n z) (hne : g ≠ g') : HoldsE (w.setCell ⟨g', q, none⟩ v) (some ⟨g, 0, none⟩) n z := by
  intro h0
  obtain ⟨b', o', he, hlt, hc⟩ := h h0
  injection he with he
  injection he with e1 e2 _
  subst e1; subst e2
  exact ⟨g, 0, rfl, by simpa using hlt, fun i hi j hj => by rw [World.cell?_setCell_other _ _ _ _ (by first | (simp; done) | (simp [hne]; done) | (simp [Ne.symm hne]; done) | (simp; exact fun e => absurd e.symm hne))]; exact hc i hi j hj⟩
/-- An entry's text exchanged. -/
theorem HoldsE.set7 {w : World} {g n k : Nat} {z : Nat → En} (y : ByteArray) (h : HoldsE w (some ⟨g, 0, none⟩) n z) (hk : k < n) : HoldsE (w.setCell ⟨g, k * 9 + 7, none⟩ (.string y)) (some ⟨g, 0, none⟩) n (putZ z k { z k with data := y }) := by
  intro h0
  obtain ⟨b', o', he, hlt, hc⟩ := h h0
  injection he with he
  injection he with e1 e2 _
  subst e1; subst e2
  refine ⟨g, 0, rfl, by simpa using hlt, fun i hi j hj => ?_⟩
  have hcc := hc i hi j hj
  rw [Nat.zero_add] at hcc ⊢
  by_cases hik : i = k
  · subst hik
    rw [putZ_at]
    by_cases h7 : j = 7
    · subst h7
      rw [World.cell?_setCell_same _ _ _ hcc]
      rfl
    · rw [World.cell?_setCell_other _ _ _ _ (by first | (simp; done) | (simp; omega)), hcc]
      rcases (show j = 0 ∨ j = 1 ∨ j = 2 ∨ j = 3 ∨ j = 4 ∨ j = 5 ∨ j = 6 ∨ j = 8 by omega) with rfl | rfl | rfl | rfl | rfl | rfl | rfl | rfl <;> rfl
  · rw [World.cell?_setCell_other _ _ _ _ (by first | (simp; done) | (simp; omega)), hcc]
    unfold putZ
    rw [if_neg hik]
theorem Idl.wf {z : Nat → En} {n : Nat} (h : Idl z n) : Wf z n := by
  refine ⟨fun i hi h3 he => ?_, fun i hi => (h.en i hi).ok.small⟩
  have h0 := ends_waits (right_ends (h.right i hi) he)
  rw [h3] at h0
  have hb : waitsP z (z i).side (z i).dlci 3 i = begP z (z i).side (z i).dlci 3 i := by
    rcases waits_beg (z := z) (z i).side (z i).dlci 3 i (fun j hj x => (h.en j (by omega)).beg x) with x | x
    · omega
    · exact x
  have hw := h.whole i hi he h3 (by rw [← hb]; exact h0)
  rw [← hb] at hw
  exact ⟨h0, by omega, by omega⟩
theorem toList_ne {s : ByteArray} (h : s ≠ ⟨#[]⟩) : ¬ s.toList = [] := fun x => h (ba_eq _ _ (by rw [beq_toListBytes, x]; decide +kernel))
theorem acc_odd {z : Nat → En} {m k : Nat} (hI : Idl z m) (hW : Wf z m) (hk : k < m) (h4 : (z k).kind = 4) (he : (z k).ends = true) (hd : (z k).data ≠ ⟨#[]⟩) (y : ByteArray) (hy : y ≠ (z k).data) (hs : y.size = (z k).data.size) :
    AccR (putZ z k { z k with data := y }) (k + 1) k false ∧ ∀ j, j < k + 1 → EnOk (putZ z k { z k with data := y } j) := by
  have hlt := putZ_lt z k { z k with data := y }
  have hat := putZ_at z k { z k with data := y }
  refine ⟨⟨by omega, fun j hj => ?_, fun x => (by cases x), fun _ => ⟨by omega, ?_⟩⟩, fun j hj => ?_⟩
  · rw [← hlt j hj, ← right_congr (hW.mono (by omega)) (fun i hi => hlt i (by omega))]
    exact hI.right j (by omega)
  · rw [hat, ← right_congr (hW.mono (by omega)) hlt]
    exact read_odd (hI.right k hk) he h4 hd y hy hs
  · by_cases e : j = k
    · subst e
      rw [hat]
      have ho := (hI.en j hk).ok
      exact ⟨ho.side, ho.kind, ho.dlci, ho.n0, ho.n1, by show y.size ≤ 60; rw [hs]; exact ho.small⟩
    · rw [← hlt j (by omega)]
      exact (hI.en j (by omega)).ok
theorem flip_u8 : ∀ y : Nat, y < 256 → ∃ v : Nat, bits .xor .u8 (y : Int) 1 = (v : Int) ∧ v < 256 ∧ v ≠ y := by
  intro y hy
  have h := u8_xor_nat y 1 hy (by decide)
  refine ⟨y ^^^ 1, h, Nat.xor_lt_two_pow (n := 8) hy (by decide), fun e => ?_⟩
  have h2 : y ^^^ 1 ^^^ y = 0 := by rw [e, Nat.xor_self]
  rw [Nat.xor_comm y 1, Nat.xor_assoc, Nat.xor_self] at h2
  exact absurd h2 (by decide)
theorem rdAt_new {w0 w : World} (h : Below w0.heap.size w0 w) : RdAt w0.heap.size w.heap.size (w.heap.size + 1) (fun _ => ⟨#[]⟩) (fun _ => ⟨#[]⟩) w0 ((w.alloc oStr).alloc oStr) := by
  have h1 := h.size
  have h2 := strRow_new (w.alloc oStr)
  rw [World.size_alloc] at h2
  exact ⟨(strRow_new w).keep (Below.heap_alloc _ _ _ (by simp)), h2, by omega, h1, by omega, (h.alloc h1 oStr).alloc (by simp; omega) oStr⟩
theorem rdAt_swap {B g1 g2 : Nat} {f1 f2 : Nat → ByteArray} {w0 W : World} (h : RdAt B g1 g2 f1 f2 w0 W) : RdAt B g2 g1 f2 f1 w0 W := ⟨h.b, h.a, Ne.symm h.ne, h.b2, h.b1, h.below⟩
set_option maxRecDepth 100000 in
set_option maxHeartbeats 8000000 in
theorem lawReads_any (a : Option Addr) (n ca : Nat) (z : Nat → Ac) (x : Nat) (w : World) (hE : HoldsA w a n z) (hb : n ≤ maxLen ∧ ∀ j, j < n → (z j).what ≤ 255 ∧ (z j).side ≤ 255 ∧ (z j).kind ≤ 255 ∧ (z j).dlci ≤ 255 ∧ -9223372036854775808 ≤ (z j).n ∧ (z j).n ≤ 9223372036854775807 ∧ (z j).data.size ≤ maxLen) (hx : x ≤ 255) :
    Calls Try.prog 5 #[.slice a n ca, .int .u8 (x : Int)] w fun e w' => e = .returned (.bool true) ∧ Below w.heap.size w w' := by
  obtain ⟨i0, hi0, hz0, hz1, hz2⟩ := info_parts wrldrow
  have HF := hide (acts_any a n ca z 60 w hE (by decide))
  have HB := hide hb
  clear hb
  go_enter Try.func5, Try.ntmps5
  go_wp2_with fail
  refine HF.out.mono ?_
  rintro e w1 ⟨b, rfl, hfew, b1⟩
  clear HF
  cases b with
  | false =>
    clear hfew
    go_wp2_with fail
    refine (works_any _).mono ?_
    rintro e w2 ⟨rfl, b2⟩
    have bw2 := below_step b1 (Nat.le_refl _) b2
    go_wp2
    go_ret
    exact ⟨rfl, bw2⟩
  | true =>
    obtain ⟨hn, hsm⟩ := hfew rfl
    have HI := hide (fun (W : World) (h : HoldsA W a n z) => ideal_any a n ca z W h hn (fun i hi => by
      obtain ⟨x1, x2, x3, x4, x5, x6, _⟩ := HB.out.2 i hi
      exact ⟨x1, x2, x3, x4, x5, x6, hsm i hi⟩))
    clear hfew hsm HB
    have hE1 := hE.below b1
    clear hE
    go_wp2_with fail
    refine (HI.out _ hE1).mono ?_
    rintro e w2 ⟨v, m, zt, rfl, hrow, hm, hI, b2⟩
    have bw2 := below_step b1 (Nat.le_refl _) b2
    obtain ⟨a1, ca1, rfl, hca1, hE2⟩ := OwnR.holds hrow
    have hnone : a1 = none → m = 0 ∧ ca1 = 0 := fun h => by
      rcases hrow.2 with ⟨h1, h2⟩ | ⟨g, cap, cur, h1, _⟩
      · injection h1 with _ _ h3; exact ⟨h2, h3⟩
      · rw [h] at h1; injection h1 with h1; cases h1
    have hsome : ∀ q, a1 = some q → ∃ g, q = ⟨g, 0, none⟩ := fun q h => by
      rcases hrow.2 with ⟨h1, h2⟩ | ⟨g, cap, cur, h1, _⟩
      · rw [h] at h1; injection h1 with h1; cases h1
      · rw [h] at h1; injection h1 with h1; injection h1 with h1; exact ⟨g, h1⟩
    have HE2 := hide hE2
    have HI2 := hide hI
    clear hE1 b1 b2 hrow hE2 hI HI
    go_wp2_with fail
    refine (hacc_is a1 m ca1 zt _ HE2.out (by omega) (fun i hi => (HI2.out.en i hi).ok) m true ⟨Nat.le_refl _, HI2.out.right, fun _ => rfl, fun x => (by cases x)⟩).mono ?_
    rintro e w3 ⟨rfl, b3⟩
    have bw3 := below_step bw2 (Nat.le_refl _) b3
    have HE3 := hide (HE2.out.below b3)
    clear b3 bw2 HE2
    obtain ⟨k, hk, hkm⟩ : ∃ k : Nat, (x : Int) % ((m : Int) + 1) = (k : Int) ∧ k ≤ m := ⟨x % (m + 1), by simp, by have := Nat.mod_lt x (show 0 < m + 1 by omega); omega⟩
    go_upto_region 8 with (fail)
    rw [hk]
    clear hk
    go_cut [46, 47, 48, 49, 50, 51, 52, 9, 10] (fun _ _ _ _ _ _ _ s9 s10 wx => s9 = .int .i64 (k : Int) ∧ s10 = .bool true ∧ Below w3.heap.size w3 wx)
    case first =>
      as_aux_lemma =>
        have HC := hide (fun (q : Option Addr) (c : Nat) (h : HoldsE w3 q k zt) => hacc_is q k c zt w3 h (by omega) (fun i hi => (HI2.out.en i (by omega)).ok) k true ⟨Nat.le_refl _, fun j hj => HI2.out.right j (by omega), fun _ => rfl, fun x => (by cases x)⟩)
        have hE4 := HE3.out.mono hkm
        cases a1 with
        | none =>
          obtain ⟨rfl, rfl⟩ := hnone rfl
          obtain rfl : k = 0 := by omega
          clear hnone hsome
          go_wp2_with fail
          refine (HC.out none 0 hE4).mono ?_
          rintro e w4 ⟨rfl, b4⟩
          go_wp2
          go_meet
          exact ⟨rfl, rfl, b4⟩
        | some q =>
          obtain ⟨g, rfl⟩ := hsome q rfl
          have hkc : (k : Int) ≤ (ca1 : Int) := by omega
          clear hnone hsome
          go_wp2_with fail
          refine (HC.out _ _ hE4).mono ?_
          rintro e w4 ⟨rfl, b4⟩
          go_wp2
          go_meet
          exact ⟨rfl, rfl, b4⟩
    case rest =>
    obtain ⟨rfl, rfl, b4⟩ := hcut
    have bw4 := below_step bw3 (Nat.le_refl _) b4
    have HE4 := hide (HE3.out.below b4)
    generalize wc = w4 at *
    clear b4 HE3 bw3
    go_upto_region 11 with (fail)
    go_cut [60, 61, 11, 12] (fun _ _ s11 s12 wx => ∃ g1 g2 : Nat, s11 = .slice (some ⟨g1, 0, none⟩) 8 8 ∧ s12 = .slice (some ⟨g2, 0, none⟩) 8 8 ∧ RdAt w4.heap.size g1 g2 (fun _ => ⟨#[]⟩) (fun _ => ⟨#[]⟩) w4 wx)
    case first =>
      as_aux_lemma =>
        refine wp_region_held (S := fun W => Below w4.heap.size w4 W) (by kernel_rfl) ?_
        change wpAnyH _ _ _ _ _ _ _ _ (World.drew _)
        have hS : Below w4.heap.size w4 w4.drew := below_drewN (Below.refl _ _) 1
        generalize w4.drew = w5 at *
        have hmk := run_make_str w5
        refine two_atH 0 1 rfl rfl (by kernel_rfl) rfl rfl (fun K hK => ?_) (fun K hK => ?_)
        · go_simp
          refine (fun ha => hK _ _ ha ?_) (hS.alloc hS.size _); clear hK K
          refine take_atH 2 11 ha rfl rfl (by kernel_rfl) (by kernel_rfl) (by kernel_rfl) (fun _ _ _ h => h) rfl (fun wq hq => by go_simp; first | done | with_reducible rfl) ?_
          simp only [Act.put, List.setIfInBounds_toArray, List.set_cons_zero, List.set_cons_succ]
          have hmk2 := run_make_str (w5.alloc oStr)
          refine lone_atH 1 rfl (by kernel_rfl) rfl (fun K hK => ?_)
          go_simp
          refine (fun hb => hK _ _ hb ?_) (ha.alloc ha.size _); clear hK K
          refine take_atH 3 12 hb rfl rfl (by kernel_rfl) (by kernel_rfl) (by kernel_rfl) (fun _ _ _ h => h) rfl (fun wq hq => by go_simp; first | done | with_reducible rfl) ?_
          simp only [Act.put, List.setIfInBounds_toArray, List.set_cons_zero, List.set_cons_succ]
          refine wpAnyH_done (by kernel_rfl) ?_ _
          go_wp2
          go_meet
          exact ⟨_, _, rfl, rfl, rdAt_new hS⟩
        · go_simp
          refine (fun ha => hK _ _ ha ?_) (hS.alloc hS.size _); clear hK K
          have hmk2 := run_make_str (w5.alloc oStr)
          refine lone_atH 0 rfl (by kernel_rfl) rfl (fun K hK => ?_)
          go_simp
          refine (fun hb => hK _ _ hb ?_) (ha.alloc ha.size _); clear hK K
          refine take_atH 2 11 hb rfl rfl (by kernel_rfl) (by kernel_rfl) (by kernel_rfl) (fun _ _ _ h => h) rfl (fun wq hq => by go_simp; first | done | with_reducible rfl) ?_
          simp only [Act.put, List.setIfInBounds_toArray, List.set_cons_zero, List.set_cons_succ]
          refine take_atH 3 12 hb rfl rfl (by kernel_rfl) (by kernel_rfl) (by kernel_rfl) (fun _ _ _ h => h) rfl (fun wq hq => by go_simp; first | done | with_reducible rfl) ?_
          simp only [Act.put, List.setIfInBounds_toArray, List.set_cons_zero, List.set_cons_succ]
          refine wpAnyH_done (by kernel_rfl) ?_ _
          go_wp2
          go_meet
          exact ⟨_, _, rfl, rfl, rdAt_swap (rdAt_new hS)⟩
    case rest =>
    obtain ⟨g1, g2, rfl, rfl, R⟩ := hcut
    generalize wc = w5 at *
    have hm60 : m ≤ 60 := hm
    go_wp2
    go_loopw [13, 14, 15] (fun i _ _ wr => ∃ q : Nat, q ≤ m ∧ i = .int .i64 (q : Int) ∧ RdAt w4.heap.size g1 g2 (wrF zt q) (rdF zt q) w4 wr) (fun i _ _ _ => m - (intOf i).toNat)
    case atStart => exact ⟨0, by omega, rfl, R⟩
    case round =>
      clear R
      obtain ⟨q, hq, rfl, R⟩ := hrel
      by_cases hkl : q < m
      · have hkl' : (q : Int) < (m : Int) := by omega
        obtain ⟨lb, lo, rfl, hlb, hlc⟩ := HE4.out (by omega)
        have hl3 := fun j hj => (R.below.cell (p := ⟨lb, _, none⟩) hlb).trans (hlc q hkl j hj)
        have hei := HI2.out.en q hkl
        have hwp := fun h1 h2 => wrF_put (n := q) (z := zt) hei.side h1 h2
        have hrp := fun h1 h2 => rdF_put (n := q) (z := zt) hei.side h1 h2
        have hwq := fun h1 => wrF_same (n := q) (z := zt) h1
        have hrq := fun h1 => rdF_same (n := q) (z := zt) h1
        have hsz1 := fun s d => begD_size (z := zt) s d q (fun i hi => (HI2.out.en i (by omega)).ok.small)
        have hsz2 := fun s d => reaD_size (z := zt) s d q (fun i hi => (HI2.out.en i (by omega)).ok.small)
        obtain ⟨e, hze⟩ : ∃ e, zt q = e := ⟨_, rfl⟩
        rw [hze] at hl3 hei hwp hrp hwq hrq
        obtain ⟨st, sd, kd, dl, en, id, nn, dt, er⟩ := e
        obtain ⟨e0, e1, e2, e3, e4, e5, e6, e7, e8⟩ := en_at hl3
        have hsd := hei.side
        have hd1 := hei.d1
        have hd3 := hei.d3
        have hdt := hei.ok.small
        dsimp only at hsd hd1 hd3 hdt hwp hrp hwq hrq
        have HWP := hide hwp
        have HRP := hide hrp
        have HWQ := hide hwq
        have HRQ := hide hrq
        clear hl3 hlc hei hze hwp hrp hwq hrq
        have E6 : EnBlk (wr.alloc (oEn st sd kd dl en id nn dt er)) wr.heap.size st sd kd dl en id nn dt er := World.alloc_heap_new wr _
        have R6 := R.step (Nat.le_refl _) ((Below.refl wr.heap.size wr).alloc (Nat.le_refl _) (oEn st sd kd dl en id nn dt er))
        have hge1 : wr.heap.size ≠ g1 := Nat.ne_of_gt R.a.lt
        have hge2 : wr.heap.size ≠ g2 := Nat.ne_of_gt R.b.lt
        unfold oEn at E6 R6
        clear R
        go_upto_region 16 with (fail)
        generalize wr.alloc (.cells #[.int .i64 st, .int .u8 (sd : Int), .int .u8 (kd : Int), .int .u8 (dl : Int), .bool en, .int .i64 id, .int .i64 nn, .string dt, .int .i64 er] 38) = w6 at *
        generalize wr.heap.size = ge at *
        clear e0 e1 e2 e3 e4 e5 e6 e7 e8
        obtain ⟨P, hP⟩ : ∃ P, sd + 2 * dl = P := ⟨_, rfl⟩
        obtain ⟨P', hP'⟩ : ∃ P', 1 - sd + 2 * dl = P' := ⟨_, rfl⟩
        have hP8 : P < 8 := by omega
        have hP8' : P' < 8 := by omega
        have hxor : bits .xor .i64 (P : Int) 1 = (P' : Int) := by
          rcases (show sd = 0 ∨ sd = 1 by omega) with rfl | rfl <;> rcases (show dl = 1 ∨ dl = 2 ∨ dl = 3 by omega) with rfl | rfl | rfl <;> subst hP <;> subst hP' <;> decide +kernel
        have hq1 : (wrF zt q P).size + dt.size ≤ 4000 := by have := hsz1 (P % 2) (P / 2); unfold wrF; omega
        have hq2 : (rdF zt q P').size + dt.size ≤ 4000 := by have := hsz2 (1 - P' % 2) (P' / 2); unfold rdF; omega
        have hq1n : ¬ 9223372036854775807 < (wrF zt q P).size + dt.size := by omega
        have hq2n : ¬ 9223372036854775807 < (rdF zt q P').size + dt.size := by omega
        rw [hP] at HWP
        rw [hP'] at HRP
        go_cut [15] (fun s15 wx => s15 = .int .i64 (P : Int) ∧ w6 = wx)
        case first =>
          obtain ⟨c0, c1, c2, c3, c4, c5, c6, c7, c8, _⟩ := en_cells E6
          clear hxor
          go_wp2
          go_meet
          exact ⟨congrArg (Value.int .i64) (by omega), rfl⟩
        case rest =>
        obtain ⟨rfl, rfl⟩ := hcut
        have hPi : (P : Int) < 8 := by omega
        have hPi' : (P' : Int) < 8 := by omega
        clear hsz1 hsz2 hP hP' hsd hd1 hd3
        by_cases h3 : kd = 3
        · subst h3
          cases en with
          | false =>
            as_aux_lemma =>
              obtain ⟨c0, c1, c2, c3, c4, c5, c6, c7, c8, _⟩ := en_cells E6
              have hw := hide (HWP.out rfl rfl)
              have hr := hide (HRQ.out (by rintro ⟨x, _⟩; exact absurd x (by decide)))
              clear HWP HRP HWQ HRQ
              go_upto_region 18 with (fail)
              clear c0 c1 c2 c3 c4 c5 c6 c7 c8
              refine wp_region_held (S := fun W => EnBlk W ge st sd 3 dl false id nn dt er) (by kernel_rfl) ?_
              change wpAnyH _ _ _ _ _ _ _ _ (World.drew _)
              have hS : EnBlk w6.drew ge st sd 3 dl false id nn dt er := E6
              have R7 : RdAt w4.heap.size g1 g2 (wrF zt q) (rdF zt q) w4 w6.drew := ⟨R6.a, R6.b, R6.ne, R6.b1, R6.b2, below_drewN R6.below 1⟩
              generalize w6.drew = w7 at *
              refine take_atH 0 89 hS rfl rfl (by kernel_rfl) (by kernel_rfl) (by kernel_rfl) (fun _ _ _ h => h) rfl (fun wq hq => by go_simp; first | done | with_reducible rfl) ?_
              simp only [Act.put, List.setIfInBounds_toArray, List.set_cons_zero, List.set_cons_succ]
              refine take_atH 1 90 hS rfl rfl (by kernel_rfl) (by kernel_rfl) (by kernel_rfl) (fun _ _ _ h => h) rfl (fun wq hq => by go_simp; first | done | with_reducible rfl) ?_
              simp only [Act.put, List.setIfInBounds_toArray, List.set_cons_zero, List.set_cons_succ]
              refine take_atH 2 91 hS rfl rfl (by kernel_rfl) (by kernel_rfl) (by kernel_rfl) (fun _ _ _ h => h) rfl (fun wq hq => by go_simp; first | done | with_reducible rfl) ?_
              simp only [Act.put, List.setIfInBounds_toArray, List.set_cons_zero, List.set_cons_succ]
              refine take_atH 3 92 hS rfl rfl (by kernel_rfl) (by kernel_rfl) (by kernel_rfl) (fun _ _ _ h => h) rfl (fun wq hq => by go_simp; first | done | with_reducible rfl) ?_
              simp only [Act.put, List.setIfInBounds_toArray, List.set_cons_zero, List.set_cons_succ]
              refine take_atH 4 93 hS rfl rfl (by kernel_rfl) (by kernel_rfl) (by kernel_rfl) (fun _ _ _ h => h) rfl (fun wq hq => by go_simp; first | done | with_reducible rfl) ?_
              simp only [Act.put, List.setIfInBounds_toArray, List.set_cons_zero, List.set_cons_succ]
              refine take_atH 6 95 hS rfl rfl (by kernel_rfl) (by kernel_rfl) (by kernel_rfl) (fun _ _ _ h => h) rfl (fun wq hq => by go_simp; first | done | with_reducible rfl) ?_
              simp only [Act.put, List.setIfInBounds_toArray, List.set_cons_zero, List.set_cons_succ]
              refine take_atH 7 96 hS rfl rfl (by kernel_rfl) (by kernel_rfl) (by kernel_rfl) (fun _ _ _ h => h) rfl (fun wq hq => by obtain ⟨c0, c1, c2, c3, c4, c5, c6, c7, c8, _⟩ := en_cells hq; go_simp; first | done | with_reducible rfl) ?_
              simp only [Act.put, List.setIfInBounds_toArray, List.set_cons_zero, List.set_cons_succ]
              have x1 := R7.a.cell hP8
              refine lone_atH 5 rfl (by kernel_rfl) rfl (fun K hK => ?_)
              go_simp
              refine hK _ _ hS ?_; clear hK K
              refine take_atH 8 97 hS rfl rfl (by kernel_rfl) (by kernel_rfl) (by kernel_rfl) (fun _ _ _ h => h) rfl (fun wq hq => by go_simp; first | done | with_reducible rfl) ?_
              simp only [Act.put, List.setIfInBounds_toArray, List.set_cons_zero, List.set_cons_succ]
              refine take_atH 9 98 hS rfl rfl (by kernel_rfl) (by kernel_rfl) (by kernel_rfl) (fun _ _ _ h => h) rfl (fun wq hq => by go_simp; first | done | with_reducible rfl) ?_
              simp only [Act.put, List.setIfInBounds_toArray, List.set_cons_zero, List.set_cons_succ]
              have z1 := R7.a.frz P
              refine lone_atH 10 rfl (by kernel_rfl) rfl (fun K hK => ?_)
              go_simp
              refine (fun hN2 => hK _ _ hN2 ?_) ((Below.heap_setCell _ _ _ _ hge1).trans hS); clear hK K
              have E8 := hN2
              have R8 := R7.putA _ hP8 hw.out
              refine wpAnyH_done (by kernel_rfl) ?_ _
              obtain ⟨c0, c1, c2, c3, c4, c5, c6, c7, c8, _⟩ := en_cells E8
              go_wp2
              go_roundw
              case rel => exact ⟨q + 1, hkl, by go_num, by rw [hr.out]; exact R8⟩
              case measure => simp [intOf]; omega
          | true =>
            as_aux_lemma =>
              have hw := hide (HWQ.out (by rintro ⟨_, x⟩; cases x))
              have hr := hide (HRQ.out (by rintro ⟨x, _⟩; exact absurd x (by decide)))
              obtain ⟨c0, c1, c2, c3, c4, c5, c6, c7, c8, _⟩ := en_cells E6
              go_wp2
              go_roundw
              case rel => exact ⟨q + 1, hkl, by go_num, by rw [hw.out, hr.out]; exact R6⟩
              case measure => simp [intOf]; omega
        · have h3' : ((kd : Int) == 3) = false := beq_eq_false_iff_ne.2 (by omega)
          by_cases h4 : kd = 4
          · subst h4
            cases en with
            | true =>
              as_aux_lemma =>
                obtain ⟨c0, c1, c2, c3, c4, c5, c6, c7, c8, _⟩ := en_cells E6
                have hr := hide (HRP.out rfl rfl)
                have hw := hide (HWQ.out (by rintro ⟨x, _⟩; exact absurd x (by decide)))
                clear HWP HRP HWQ HRQ
                go_upto_region 20 with (fail)
                clear c0 c1 c2 c3 c4 c5 c6 c7 c8
                refine wp_region_held (S := fun W => EnBlk W ge st sd 4 dl true id nn dt er) (by kernel_rfl) ?_
                change wpAnyH _ _ _ _ _ _ _ _ (World.drew _)
                have hS : EnBlk w6.drew ge st sd 4 dl true id nn dt er := E6
                have R7 : RdAt w4.heap.size g1 g2 (wrF zt q) (rdF zt q) w4 w6.drew := ⟨R6.a, R6.b, R6.ne, R6.b1, R6.b2, below_drewN R6.below 1⟩
                generalize w6.drew = w7 at *
                refine take_atH 0 106 hS rfl rfl (by kernel_rfl) (by kernel_rfl) (by kernel_rfl) (fun _ _ _ h => h) rfl (fun wq hq => by go_simp; first | done | with_reducible rfl) ?_
                simp only [Act.put, List.setIfInBounds_toArray, List.set_cons_zero, List.set_cons_succ]
                refine take_atH 1 107 hS rfl rfl (by kernel_rfl) (by kernel_rfl) (by kernel_rfl) (fun _ _ _ h => h) rfl (fun wq hq => by go_simp; first | done | with_reducible rfl) ?_
                simp only [Act.put, List.setIfInBounds_toArray, List.set_cons_zero, List.set_cons_succ]
                refine take_atH 2 108 hS rfl rfl (by kernel_rfl) (by kernel_rfl) (by kernel_rfl) (fun _ _ _ h => h) rfl (fun wq hq => by go_simp; first | done | with_reducible rfl) ?_
                simp only [Act.put, List.setIfInBounds_toArray, List.set_cons_zero, List.set_cons_succ]
                refine take_atH 3 109 hS rfl rfl (by kernel_rfl) (by kernel_rfl) (by kernel_rfl) (fun _ _ _ h => h) rfl (fun wq hq => by go_simp; first | done | with_reducible rfl) ?_
                simp only [Act.put, List.setIfInBounds_toArray, List.set_cons_zero, List.set_cons_succ]
                refine take_atH 4 110 hS rfl rfl (by kernel_rfl) (by kernel_rfl) (by kernel_rfl) (fun _ _ _ h => h) rfl (fun wq hq => by go_simp; first | done | with_reducible rfl) ?_
                simp only [Act.put, List.setIfInBounds_toArray, List.set_cons_zero, List.set_cons_succ]
                refine take_atH 5 111 hS rfl rfl (by kernel_rfl) (by kernel_rfl) (by kernel_rfl) (fun _ _ _ h => h) rfl (fun wq hq => by go_simp; first | done | with_reducible rfl) ?_
                simp only [Act.put, List.setIfInBounds_toArray, List.set_cons_zero, List.set_cons_succ]
                refine take_atH 6 112 hS rfl rfl (by kernel_rfl) (by kernel_rfl) (by kernel_rfl) (fun _ _ _ h => h) rfl (fun wq hq => by go_simp; first | done | with_reducible rfl) ?_
                simp only [Act.put, List.setIfInBounds_toArray, List.set_cons_zero, List.set_cons_succ]
                refine take_atH 8 114 hS rfl rfl (by kernel_rfl) (by kernel_rfl) (by kernel_rfl) (fun _ _ _ h => h) rfl (fun wq hq => by go_simp; first | done | with_reducible rfl) ?_
                simp only [Act.put, List.setIfInBounds_toArray, List.set_cons_zero, List.set_cons_succ]
                refine take_atH 9 115 hS rfl rfl (by kernel_rfl) (by kernel_rfl) (by kernel_rfl) (fun _ _ _ h => h) rfl (fun wq hq => by obtain ⟨c0, c1, c2, c3, c4, c5, c6, c7, c8, _⟩ := en_cells hq; go_simp; first | done | with_reducible rfl) ?_
                simp only [Act.put, List.setIfInBounds_toArray, List.set_cons_zero, List.set_cons_succ]
                have x1 := R7.b.cell hP8'
                refine lone_atH 7 rfl (by kernel_rfl) rfl (fun K hK => ?_)
                go_simp
                refine hK _ _ hS ?_; clear hK K
                refine take_atH 10 116 hS rfl rfl (by kernel_rfl) (by kernel_rfl) (by kernel_rfl) (fun _ _ _ h => h) rfl (fun wq hq => by go_simp; first | done | with_reducible rfl) ?_
                simp only [Act.put, List.setIfInBounds_toArray, List.set_cons_zero, List.set_cons_succ]
                refine take_atH 11 117 hS rfl rfl (by kernel_rfl) (by kernel_rfl) (by kernel_rfl) (fun _ _ _ h => h) rfl (fun wq hq => by go_simp; first | done | with_reducible rfl) ?_
                simp only [Act.put, List.setIfInBounds_toArray, List.set_cons_zero, List.set_cons_succ]
                have z1 := R7.b.frz P'
                refine lone_atH 12 rfl (by kernel_rfl) rfl (fun K hK => ?_)
                go_simp
                refine (fun hN2 => hK _ _ hN2 ?_) ((Below.heap_setCell _ _ _ _ hge2).trans hS); clear hK K
                have E8 := hN2
                have R8 := R7.putB _ hP8' hr.out
                refine wpAnyH_done (by kernel_rfl) ?_ _
                go_wp2
                go_roundw
                case rel => exact ⟨q + 1, hkl, by go_num, by rw [hw.out]; exact R8⟩
                case measure => simp [intOf]; omega
            | false =>
              as_aux_lemma =>
                have hw := hide (HWQ.out (by rintro ⟨x, _⟩; exact absurd x (by decide)))
                have hr := hide (HRQ.out (by rintro ⟨_, x⟩; cases x))
                obtain ⟨c0, c1, c2, c3, c4, c5, c6, c7, c8, _⟩ := en_cells E6
                go_wp2
                go_roundw
                case rel => exact ⟨q + 1, hkl, by go_num, by rw [hw.out, hr.out]; exact R6⟩
                case measure => simp [intOf]; omega
          · have h4' : ((kd : Int) == 4) = false := beq_eq_false_iff_ne.2 (by omega)
            have g3 := hide h3
            have g4 := hide h4
            clear h3 h4
            as_aux_lemma =>
              have hw := hide (HWQ.out (by rintro ⟨x, _⟩; exact g3.out x))
              have hr := hide (HRQ.out (by rintro ⟨x, _⟩; exact g4.out x))
              obtain ⟨c0, c1, c2, c3, c4, c5, c6, c7, c8, _⟩ := en_cells E6
              go_wp2
              go_roundw
              case rel => exact ⟨q + 1, hkl, by go_num, by rw [hw.out, hr.out]; exact R6⟩
              case measure => simp [intOf]; omega
      · obtain rfl : q = m := by omega
        go_wp2
        go_loopw [16] (fun i wr => ∃ p : Nat, p ≤ 8 ∧ i = .int .i64 (p : Int) ∧ RdAt w4.heap.size g1 g2 (wrF zt q) (rdF zt q) w4 wr) (fun i _ => 8 - (intOf i).toNat)
        case atStart => exact ⟨0, by omega, rfl, R⟩
        case round =>
          clear R
          obtain ⟨p, hp, rfl, R⟩ := hrel
          by_cases hp8 : p < 8
          · have hp8' : (p : Int) < 8 := by omega
            have x1 := R.a.cell hp8
            have y1 := R.b.cell hp8
            obtain ⟨t, ht⟩ := pre_all HI2.out p
            generalize wrF zt q p = X at x1 ht
            generalize rdF zt q p = Y at y1 ht
            have hXY : Y.size ≤ X.size := by rw [ht, ByteArray.size_append]; omega
            have hXY' : ¬ (X.size : Int) < (Y.size : Int) := by omega
            have hXE : X.extract 0 Y.size = Y := by rw [ht, ByteArray.extract_append_eq_left rfl]
            clear ht
            go_upto_region 24 with (fail)
            go_cut [149] (fun s149 wx => s149 = .bool false ∧ Still wr wx)
            case first =>
              as_aux_lemma =>
                go_quiet (fail)
                go_wp2
                go_meet
                exact ⟨rfl, ⟨_, rfl⟩⟩
            case rest =>
            obtain ⟨rfl, hst⟩ := hcut
            have R1 := R.still hst
            clear R hst x1 y1
            go_wp2
            go_roundw
            case rel => exact ⟨p + 1, by omega, by go_num, R1⟩
            case measure => simp [intOf]; omega
          · obtain rfl : p = 8 := by omega
            have bwr : Below w.heap.size w wr := bw4.trans (R.below.mono bw4.size)
            have HE5 := hide (HE4.out.below R.below)
            have HW := hide HI2.out.wf
            clear R HE4
            obtain ⟨b, hb⟩ : ∃ b, (decide (k < q) && (decide ((zt k).kind = 4) && ((zt k).ends && decide ((zt k).data ≠ ⟨#[]⟩)))) = b := ⟨_, rfl⟩
            go_upto_region 26 with (fail)
            go_cut [176] (fun s176 wx => s176 = .bool b ∧ wr = wx)
            case first =>
              as_aux_lemma =>
                have HBB := hide hb
                clear hb
                by_cases h1 : k < q
                · have h1' : (k : Int) < (q : Int) := by omega
                  obtain ⟨lb, lo, rfl, hlb, hlc⟩ := HE5.out (by omega)
                  have hl3 := hlc k h1
                  obtain ⟨e, hze⟩ : ∃ e, zt k = e := ⟨_, rfl⟩
                  have hB2 := HBB.out
                  rw [hze] at hl3 hB2
                  rw [decide_eq_true h1] at hB2
                  obtain ⟨st, sd, kd, dl, en, id, nn, dt, er⟩ := e
                  dsimp only at hB2
                  obtain ⟨e0, e1, e2, e3, e4, e5, e6, e7, e8⟩ := en_at hl3
                  clear hl3 hlc hze HBB h1
                  by_cases h4 : kd = 4
                  · rw [decide_eq_true h4] at hB2
                    subst h4
                    cases en with
                    | false =>
                      have HB2 := hide hB2
                      clear hB2
                      go_wp2
                      go_meet
                      exact ⟨by rw [← HB2.out]; rfl, rfl⟩
                    | true =>
                      by_cases hd : dt = ⟨#[]⟩
                      · subst hd
                        have HB2 := hide hB2
                        clear hB2
                        go_wp2
                        go_meet
                        exact ⟨by rw [← HB2.out]; rfl, rfl⟩
                      · rw [decide_eq_true (show dt ≠ ⟨#[]⟩ from hd)] at hB2
                        have HB2 := hide hB2
                        clear hB2
                        go_wp2
                        go_meet
                        exact ⟨by rw [← HB2.out]; first | rfl | simp [toList_ne hd], rfl⟩
                  · have h4' : ((kd : Int) == 4) = false := beq_eq_false_iff_ne.2 (by omega)
                    rw [decide_eq_false h4] at hB2
                    have HB2 := hide hB2
                    clear hB2 h4
                    go_wp2
                    go_meet
                    exact ⟨by rw [← HB2.out]; rfl, rfl⟩
                · have h1' : ¬ (k : Int) < (q : Int) := by omega
                  have hB2 := HBB.out
                  rw [decide_eq_false h1] at hB2
                  have HB2 := hide hB2
                  clear hB2 h1 HBB
                  go_wp2
                  go_meet
                  exact ⟨by rw [← HB2.out]; rfl, rfl⟩
            case rest =>
            obtain ⟨rfl, rfl⟩ := hcut
            cases b with
            | false =>
              clear hb
              go_wp2_with fail
              refine (works_any _).mono ?_
              rintro e w6 ⟨rfl, b6⟩
              have bw6 := below_step bwr (Nat.le_refl _) b6
              go_wp2
              go_ret
              exact ⟨rfl, bw6⟩
            | true =>
              as_aux_lemma =>
                simp only [Bool.and_eq_true, decide_eq_true_eq] at hb
                obtain ⟨h1, h4, hen, hd⟩ := hb
                have hk0 : (zt k).data.size ≠ 0 := fun h => hd (ByteArray.size_eq_zero_iff.1 h)
                have hsm : (zt k).data.size ≤ 60 := (HI2.out.en k h1).ok.small
                obtain ⟨g, cap0, ha1⟩ : ∃ g cap0 : Nat, a1 = some ⟨g, 0, none⟩ := by
                  cases ha : a1 with
                  | none => exact absurd (hnone ha).1 (by omega)
                  | some q0 =>
                    obtain ⟨g, hg⟩ := hsome q0 ha
                    exact ⟨g, 0, by rw [hg]⟩
                subst ha1
                have hE5 := HE5.out
                have ACC := hide (fun y => acc_odd HI2.out HW.out h1 h4 hen hd y)
                clear hnone hsome HW HI2 h4 hen hd
                obtain ⟨s, hs⟩ : ∃ s, (zt k).data = s := ⟨_, rfl⟩
                rw [hs] at hk0 hsm ACC
                have HS := hide hs
                clear hs
                obtain ⟨M, hM⟩ : ∃ M, s.size - 1 = M := ⟨_, rfl⟩
                have hMs : M < s.size := by omega
                have hMw : IntKind.i64.wrap ((s.size : Int) - 1) = (M : Int) := by rw [IntWalk.i64_in _ (by omega)]; omega
                have hMi : (s.size : Int) - 1 = (M : Int) := by omega
                have hMl : (M : Int) < (s.size : Int) := by omega
                obtain ⟨y0, hy0, hy1⟩ : ∃ y0 : Nat, Hid (s[M].toNat = y0) ∧ y0 < 256 := ⟨_, hide rfl, s[M].toNat_lt⟩
                obtain ⟨v, hv, hv1, hv2⟩ : ∃ v : Nat, bits .xor .u8 (y0 : Int) 1 = (v : Int) ∧ v < 256 ∧ v ≠ y0 := flip_u8 y0 hy1
                obtain ⟨L, hL⟩ : ∃ L, L = s.data.toList.set M (UInt8.ofNat v) := ⟨_, rfl⟩
                have hlen : L.length = s.size := by rw [hL, List.length_set, Array.length_toList]; rfl
                have hodd := odd_ne s M v hMs hv1 (by rw [hy0.out]; exact hv2) L hL
                have HODD := hide (ACC.out ⟨L.toArray⟩ hodd.1 hodd.2)
                have HL := hide hlen
                have HL2 := hide hL
                clear hlen hL hodd ACC hM hk0
                obtain ⟨k1, hk1e⟩ : ∃ k1, k + 1 = k1 := ⟨_, rfl⟩
                have hk1x : (k : Int) + 1 = (k1 : Int) := by omega
                have hk1w : IntKind.i64.wrap ((k : Int) + 1) = (k1 : Int) := by rw [hk1x]; exact IntWalk.i64_in _ (by omega)
                have hk1c : (k1 : Int) ≤ (ca1 : Int) := by omega
                have hk1n : (0 : Int) ≤ (k1 : Int) := by omega
                have hk1q : k1 ≤ q := by omega
                have hk1p : 0 < k1 := by omega
                have HK1 := hide hk1e
                clear hk1e
                have hBr : w.heap.size ≤ wr.heap.size := bwr.size
                go_upto_region 28 with (fail)
                go_upto_region 29 with (at_builtin; refine wpList_append_own_at _ rfl (.tmp 177) (.tmp 181) 22 rfl wr.heap.size 38 i0 zV 9 56 Try.underlying22 hi0 hz0 hz1 hz2 rfl (by decide) _ _ _ rfl (World.ownsRow_nil _ _ _ _) ⟨g, 0, none⟩ k1 ca1 (rowC zt k1) (by first | rfl | (simp; done)) (rowC_length zt k1) (hE5.mono (by omega)).cells (rowC_one zt k1) (by unfold maxLen; omega) (by omega) (Nat.le_refl _) ?_; intro v' w5 hown hgrow _ hat)
                have b5 : Below wr.heap.size wr w5 := (Below.refl _ _).grown hgrow (Nat.le_refl _) (fun k e => by cases e)
                have hown2 : OwnR w5 wr.heap.size 38 v' k1 zt := (by simpa [OwnR] using hown)
                obtain ⟨g2', cap2, cur, rfl, hge, hcur, hcap, hmax, hszc, htk⟩ := hown2.block (by omega)
                obtain ⟨_, _, hx1, _, hHl⟩ := hown2.holds
                rw [(slice_inj hx1).1] at hHl
                clear hx1 hown2 hown hgrow hat
                have c7 := (hE5.below b5).data k h1
                rw [Nat.zero_add, HS.out] at c7
                have bw5 := below_step bwr (Nat.le_refl _) b5
                have hg2 : g2' < w5.heap.size := (Array.getElem?_eq_some_iff.1 hcur).1
                have HHL := hide hHl
                clear b5 hE5 HE5 hHl htk hszc hmax
                go_upto_region 30 with (with_reducible refine wpList_to_bytes (o := ⟨some 188, _, _, _, _, _⟩) _ rfl _ 9 43 5 rfl Try.underlying9 Try.underlying43 Try.underlying5 s rfl ?_; intro cap w6 hcap6 hsz6 hbel hcells; obtain ⟨hc1, hf1⟩ := hcells M hMs)
                have HC := hide hcells
                rw [hy0.out] at hc1
                have bw6 := below_step bw5 (Nat.le_refl _) hbel
                have HHL6 := hide (HHL.out.below hbel)
                have hcur6 := (hbel.block g2' hg2).trans hcur
                have hsz6' : w5.heap.size < w6.heap.size := by omega
                clear hcells bw5 HHL c7 hcur hbel
                have hle5 : w.heap.size ≤ w5.heap.size := by have := bw6.size; omega
                go_upto_region 31 with (fail)
                have b7 := bw6.setCell (p := ⟨w5.heap.size, M, none⟩) hle5 (.int .u8 (v : Int))
                have hne : g2' ≠ w5.heap.size := by omega
                have hcur7 := (Below.heap_setCell w6 ⟨w5.heap.size, M, none⟩ (.int .u8 (v : Int)) g2' hne).trans hcur6
                have HHL7 := hide (HoldsE.set_ne (v := .int .u8 (v : Int)) (q := M) HHL6.out hne)
                have hst := set_cells (w1 := w6) hv1 hMs HC.out L HL2.out
                have HST := hide hst
                have hks : k < k1 := by have := HK1.out; omega
                have z7 := frz hcur7 (k * 9 + 7)
                have c7 := HHL7.out.data k hks
                rw [Nat.zero_add] at c7
                have hk1i : (k : Int) < (k1 : Int) := by omega
                have HE8 := hide (HoldsE.set7 ⟨L.toArray⟩ HHL7.out hks)
                have b8 := b7.setCell (p := ⟨g2', k * 9 + 7, none⟩) (by show w.heap.size ≤ g2'; omega) (.string ⟨L.toArray⟩)
                rw [HK1.out] at HODD
                clear hst HC HHL6 HHL7 hcur6 hcur7 hf1 hc1 b7 bw6
                generalize w6.setCell ⟨w5.heap.size, M, none⟩ (.int .u8 (v : Int)) = w7 at *
                go_wp2_with (with_reducible refine wpList_of_bytes (o := ⟨some 204, _, _, _, _, _⟩) _ rfl _ 43 9 5 rfl Try.underlying43 Try.underlying5 Try.underlying9 _ _ _ L HL.out rfl ?hc ?_)
                case hc => first | exact fun _ => ⟨_, rfl, HST.out⟩ | exact fun _ j hj => (by have := HST.out j hj; rw [Addr.add_lit, Nat.zero_add] at this; exact this)
                generalize w7.setCell ⟨g2', k * 9 + 7, none⟩ (.string ⟨L.toArray⟩) = w8 at *
                refine (hacc_is (some ⟨g2', 0, none⟩) k1 cap2 _ w8 HE8.out (by omega) HODD.out.2 k false HODD.out.1).mono ?_
                rintro e w9 ⟨rfl, b9⟩
                have bw9 := below_step b8 (Nat.le_refl _) b9
                clear b9 b8 HE8 HODD HST c7 z7
                go_wp2_with fail
                refine (works_any _).mono ?_
                rintro e w10 ⟨rfl, b10⟩
                have bw10 := below_step bw9 (Nat.le_refl _) b10
                go_wp2
                go_ret
                exact ⟨rfl, bw10⟩

theorem lawReads_row (a : Option Addr) (n ca : Nat) (z : Nat → Ac) (x : Int) (w : World) (hE : HoldsA w a n z) (hb : n ≤ maxLen ∧ ∀ j, j < n → (z j).what ≤ 255 ∧ (z j).side ≤ 255 ∧ (z j).kind ≤ 255 ∧ (z j).dlci ≤ 255 ∧ -9223372036854775808 ≤ (z j).n ∧ (z j).n ≤ 9223372036854775807 ∧ (z j).data.size ≤ maxLen) (h0 : 0 ≤ x) (h1 : x ≤ 255) :
    Calls Try.prog 5 #[.slice a n ca, .int .u8 x] w fun e w' => e = .returned (.bool true) ∧ Below w.heap.size w w' := by
  obtain ⟨y, rfl⟩ := Int.eq_ofNat_of_zero_le h0
  exact lawReads_any a n ca z y w hE hb (by omega)
end Go.Proofs.Ytkikonknciffiaa
