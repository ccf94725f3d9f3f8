/- What was written: the walk. -/
import Derived.Test.YtkikonknciffiaaHsRef
namespace Go.Proofs.Ytkikonknciffiaa
open Go.RowKit
set_option linter.unusedVariables false
set_option linter.unusedSimpArgs false

/-- What the region that adds a piece reads. -/
structure WrS (lb lo I k : Nat) (D : ByteArray) (N : Int) (W : World) : Prop where
  lt : lb < W.heap.size
  a : W.cell? ⟨lb, lo + I * 9 + 7, none⟩ = some (.string D)
  b : W.cell? ⟨lb, lo + k * 9 + 6, none⟩ = some (.int .i64 N)
theorem WrS.cells {lb lo I k : Nat} {D : ByteArray} {N : Int} {W : World} (h : WrS lb lo I k D N W) : W.cell? ⟨lb, lo + I * 9 + 7, none⟩ = some (.string D) ∧ W.cell? ⟨lb, lo + k * 9 + 6, none⟩ = some (.int .i64 N) := ⟨h.a, h.b⟩
theorem WrS.below {lb lo I k : Nat} {D : ByteArray} {N : Int} {W W' : World} (h : WrS lb lo I k D N W) (b : Below W.heap.size W W') : WrS lb lo I k D N W' :=
  ⟨Nat.lt_of_lt_of_le h.lt b.size, (b.cell (p := ⟨lb, _, none⟩) h.lt).trans h.a, (b.cell (p := ⟨lb, _, none⟩) h.lt).trans h.b⟩
theorem HoldsE.data {w : World} {n : Nat} {z : Nat → En} {lb lo : Nat} (h : HoldsE w (some ⟨lb, lo, none⟩) n z) (i : Nat) (hi : i < n) : w.cell? ⟨lb, lo + i * 9 + 7, none⟩ = some (.string (z i).data) := by
  obtain ⟨b, o, e, _, h2⟩ := h (by omega)
  simp only [Option.some.injEq, Addr.mk.injEq, and_true] at e
  obtain ⟨rfl, rfl⟩ := e
  rw [Nat.add_assoc]
  exact h2 i hi 7 (by decide)
theorem wrP_succ (z : Nat → En) (s d n : Nat) : wrP z s d (n + 1) = wrP z s d n ++ (if (decide ((z n).side = s) && decide ((z n).dlci = d)) = true ∧ (z n).kind = 3 ∧ (z n).ends = true then (z (waitsP z s d 3 n).toNat).data.extract 0 (z n).n.toNat else ⟨#[]⟩) := rfl
set_option maxRecDepth 100000 in
set_option maxHeartbeats 4000000 in
theorem rwrote_any (a : Option Addr) (n ca : Nat) (z : Nat → En) (s d : Nat) (w : World) (hE : HoldsE w a n z) (hn : n ≤ 1000) (hW : Wf z n) (hca : n ≤ ca) :
    Calls Try.prog 29 #[.slice a n ca, .int .u8 (s : Int), .int .u8 (d : Int)] w fun e w' => e = .returned (.string (wroteR z s d n)) ∧ Below w.heap.size w w' := by
  have HE := hide hE
  clear hE
  go_enter Try.func29, Try.ntmps29
  go_wp2
  go_loopw [7, 8] (fun x i wr => ∃ k : Nat, k ≤ n ∧ i = .int .i64 (k : Int) ∧ x = .string (wrP z s d k) ∧ Below w.heap.size w wr) (fun _ i _ => n - (intOf i).toNat)
  case atStart => exact ⟨0, by omega, rfl, rfl, Below.refl _ _⟩
  case round =>
    obtain ⟨k, hkn, rfl, rfl, bw⟩ := hrel
    by_cases hkl : k < n
    · skip
      have hkl' : (k : Int) < (n : Int) := by omega
      obtain ⟨lb, lo, rfl, hlb, hlc⟩ := HE.out (by omega)
      have hl3 := fun j hj => (bw.cell (p := ⟨lb, _, none⟩) hlb).trans (hlc k hkl j hj)
      have hsu := wrP_succ z s d k
      have hask := hW.asked k hkl
      have hsz := wrP_size s d k (hW.mono hkn)
      have hsI := fun I (hI : I < k) => hW.small I (by omega)
      have hE3' := fun W (hb : Below w.heap.size w W) => (HE.out.below hb).mono (Nat.le_of_lt hkl)
      obtain ⟨e, hze⟩ : ∃ e, z k = e := ⟨_, rfl⟩
      simp only [hze] at hl3 hsu hask
      have HASK := hide hask
      have HE3 := hide hE3'
      clear hask hE3'
      clear hlc
      obtain ⟨st, sd, kd, dl, en, id, nn, dt, er⟩ := e
      obtain ⟨e0, e1, e2, e3, e4, e5, e6, e7, e8⟩ := en_at hl3
      clear hl3
      have HSU := hide hsu
      clear hsu
      go_wp2_with fail
      refine (here_any st sd kd dl en id nn dt er s d _).mono ?_
      rintro e w2 ⟨rfl, b2⟩
      have bw2 := below_step bw (Nat.le_refl _) b2
      have lb2 : lb < wr.heap.size := Nat.lt_of_lt_of_le hlb bw.size
      replace e0 := (b2.cell (p := ⟨lb, _, none⟩) lb2).trans e0
      replace e1 := (b2.cell (p := ⟨lb, _, none⟩) lb2).trans e1
      replace e2 := (b2.cell (p := ⟨lb, _, none⟩) lb2).trans e2
      replace e3 := (b2.cell (p := ⟨lb, _, none⟩) lb2).trans e3
      replace e4 := (b2.cell (p := ⟨lb, _, none⟩) lb2).trans e4
      replace e5 := (b2.cell (p := ⟨lb, _, none⟩) lb2).trans e5
      replace e6 := (b2.cell (p := ⟨lb, _, none⟩) lb2).trans e6
      replace e7 := (b2.cell (p := ⟨lb, _, none⟩) lb2).trans e7
      replace e8 := (b2.cell (p := ⟨lb, _, none⟩) lb2).trans e8
      clear b2
      cases hh : (decide (sd = s) && decide (dl = d)) with
      | false =>
        rw [hh] at HSU
        go_wp2
        go_roundw
        case rel => exact ⟨k + 1, hkl, by go_num, by rw [HSU.out]; simp [ba_empty], bw2⟩
        case measure => simp [intOf]; omega
      | true =>
        rw [hh] at HSU
        have hsd : sd = s ∧ dl = d := by simpa using hh
        by_cases h1 : kd = 3
        · have h1' : ((kd : Int) == 3) = true := by rw [h1]; rfl
          cases en with
          | false =>
            go_wp2
            go_roundw
            case rel => exact ⟨k + 1, hkl, by go_num, by rw [HSU.out]; simp [ba_empty], bw2⟩
            case measure => simp [intOf]; omega
          | true =>
            obtain ⟨q1, q2, q3⟩ := HASK.out h1 rfl
            rw [hsd.1, hsd.2] at q1 q3
            rcases waitsP_spec z s d 3 k with q4 | ⟨I, hI, hat, _⟩
            · omega
            · rw [hat, Int.toNat_natCast] at q3
              have HS2 := HSU.out
              rw [if_pos ⟨rfl, h1, rfl⟩, hat, Int.toNat_natCast] at HS2
              obtain ⟨N, rfl⟩ := Int.eq_ofNat_of_zero_le q2
              rw [Int.toNat_natCast] at HS2
              have lb3 : lb < w2.heap.size := Nat.lt_of_lt_of_le hlb bw2.size
              have hE3 : HoldsE w2 (some ⟨lb, lo, none⟩) k z := HE3.out w2 bw2
              have hs0 := hE3.data I hI
              have hDs := hsI I hI
              generalize (z I).data = DD at *
              have q3' : N ≤ DD.size := by omega
              obtain ⟨y, hy⟩ : ∃ y, DD.extract 0 N = y := ⟨_, rfl⟩
              have hys : y.size ≤ 60 := by rw [← hy, ByteArray.size_extract]; omega
              rw [hy] at HS2
              have HSV := hide HS2
              clear HS2 HSU
              have hcat : ¬ 9223372036854775807 < (wrP z s d k).size + y.size := by omega
              have hkca : (k : Int) ≤ (ca : Int) := by omega
              have hkI : (I : Int) < (n : Int) := by omega
              go_upto_region 6 with (fail)
              refine wp_region_held (S := fun W => WrS lb lo I k DD (N : Int) W) (by kernel_rfl) ?_
              change wpAnyH _ _ _ _ _ _ _ _ (World.drew _)
              have hS : WrS lb lo I k DD (N : Int) w2.drew := ⟨lb3, hs0, e6⟩
              have bw3 : Below w.heap.size w w2.drew := below_drewN bw2 1
              have hE4 : HoldsE w2.drew (some ⟨lb, lo, none⟩) k z := hE3
              generalize w2.drew = w4 at *
              refine take_atH 0 38 hS rfl rfl (by kernel_rfl) (by kernel_rfl) (by kernel_rfl) (fun _ _ _ h => h) rfl (fun wq hq => by go_simp; first | done | with_reducible rfl) ?_
              simp only [Act.put, List.setIfInBounds_toArray, List.set_cons_zero, List.set_cons_succ]
              refine take_atH 1 39 hS rfl rfl (by kernel_rfl) (by kernel_rfl) (by kernel_rfl) (fun _ _ _ h => h) rfl (fun wq hq => by go_simp; first | done | with_reducible rfl) ?_
              simp only [Act.put, List.setIfInBounds_toArray, List.set_cons_zero, List.set_cons_succ]
              refine take_atH 2 40 hS rfl rfl (by kernel_rfl) (by kernel_rfl) (by kernel_rfl) (fun _ _ _ h => h) rfl (fun wq hq => by go_simp; first | done | with_reducible rfl) ?_
              simp only [Act.put, List.setIfInBounds_toArray, List.set_cons_zero, List.set_cons_succ]
              refine take_atH 3 41 hS rfl rfl (by kernel_rfl) (by kernel_rfl) (by kernel_rfl) (fun _ _ _ h => h) rfl (fun wq hq => by go_simp; first | done | with_reducible rfl) ?_
              simp only [Act.put, List.setIfInBounds_toArray, List.set_cons_zero, List.set_cons_succ]
              refine take_atH 4 42 hS rfl rfl (by kernel_rfl) (by kernel_rfl) (by kernel_rfl) (fun _ _ _ h => h) rfl (fun wq hq => by go_simp; first | done | with_reducible rfl) ?_
              simp only [Act.put, List.setIfInBounds_toArray, List.set_cons_zero, List.set_cons_succ]
              refine take_atH 5 43 hS rfl rfl (by kernel_rfl) (by kernel_rfl) (by kernel_rfl) (fun _ _ _ h => h) rfl (fun wq hq => by go_simp; first | done | with_reducible rfl) ?_
              simp only [Act.put, List.setIfInBounds_toArray, List.set_cons_zero, List.set_cons_succ]
              refine take_atH 6 44 hS rfl rfl (by kernel_rfl) (by kernel_rfl) (by kernel_rfl) (fun _ _ _ h => h) rfl (fun wq hq => by go_simp; first | done | with_reducible rfl) ?_
              simp only [Act.put, List.setIfInBounds_toArray, List.set_cons_zero, List.set_cons_succ]
              refine take_atH 11 49 hS rfl rfl (by kernel_rfl) (by kernel_rfl) (by kernel_rfl) (fun _ _ _ h => h) rfl (fun wq hq => by go_simp; first | done | with_reducible rfl) ?_
              simp only [Act.put, List.setIfInBounds_toArray, List.set_cons_zero, List.set_cons_succ]
              refine take_atH 12 50 hS rfl rfl (by kernel_rfl) (by kernel_rfl) (by kernel_rfl) (fun _ _ _ h => h) rfl (fun wq hq => by go_simp; first | done | with_reducible rfl) ?_
              simp only [Act.put, List.setIfInBounds_toArray, List.set_cons_zero, List.set_cons_succ]
              refine take_atH 13 51 hS rfl rfl (by kernel_rfl) (by kernel_rfl) (by kernel_rfl) (fun _ _ _ h => h) rfl (fun wq hq => by go_simp; first | done | with_reducible rfl) ?_
              simp only [Act.put, List.setIfInBounds_toArray, List.set_cons_zero, List.set_cons_succ]
              refine take_atH 14 52 hS rfl rfl (by kernel_rfl) (by kernel_rfl) (by kernel_rfl) (fun _ _ _ h => h) rfl (fun wq hq => by go_simp; first | done | with_reducible rfl) ?_
              simp only [Act.put, List.setIfInBounds_toArray, List.set_cons_zero, List.set_cons_succ]
              refine take_atH 15 53 hS rfl rfl (by kernel_rfl) (by kernel_rfl) (by kernel_rfl) (fun _ _ _ h => h) rfl (fun wq hq => by obtain ⟨s0, s1⟩ := hq.cells; go_simp; first | done | with_reducible rfl) ?_
              simp only [Act.put, List.setIfInBounds_toArray, List.set_cons_zero, List.set_cons_succ]
              refine lone_atH 7 rfl (by kernel_rfl) rfl (fun K hK => ?_)
              go_simp
              refine (rwaits_any (some ⟨lb, lo, none⟩) k ca z s d 3 _ (hE4.below (Below.refl _ _)) (by omega)).mono ?_; rintro e wN1 ⟨rfl, bN1⟩; rw [hat]
              refine (fun hN1 => hK _ _ hN1 ?_) ((hS).below bN1); clear hK K
              refine take_atH 8 46 hN1 rfl rfl (by kernel_rfl) (by kernel_rfl) (by kernel_rfl) (fun _ _ _ h => h) rfl (fun wq hq => by go_simp; first | done | with_reducible rfl) ?_
              simp only [Act.put, List.setIfInBounds_toArray, List.set_cons_zero, List.set_cons_succ]
              refine take_atH 9 47 hN1 rfl rfl (by kernel_rfl) (by kernel_rfl) (by kernel_rfl) (fun _ _ _ h => h) rfl (fun wq hq => by go_simp; first | done | with_reducible rfl) ?_
              simp only [Act.put, List.setIfInBounds_toArray, List.set_cons_zero, List.set_cons_succ]
              refine take_atH 10 48 hN1 rfl rfl (by kernel_rfl) (by kernel_rfl) (by kernel_rfl) (fun _ _ _ h => h) rfl (fun wq hq => by obtain ⟨s0, s1⟩ := hq.cells; go_simp; first | done | with_reducible rfl) ?_
              simp only [Act.put, List.setIfInBounds_toArray, List.set_cons_zero, List.set_cons_succ]
              refine take_atH 16 54 hN1 rfl rfl (by kernel_rfl) (by kernel_rfl) (by kernel_rfl) (fun _ _ _ h => h) rfl (fun wq hq => by go_simp; first | done | with_reducible rfl) ?_
              simp only [Act.put, List.setIfInBounds_toArray, List.set_cons_zero, List.set_cons_succ]
              refine take_atH 17 55 hN1 rfl rfl (by kernel_rfl) (by kernel_rfl) (by kernel_rfl) (fun _ _ _ h => h) rfl (fun wq hq => by go_simp; first | done | with_reducible rfl) ?_
              simp only [Act.put, List.setIfInBounds_toArray, List.set_cons_zero, List.set_cons_succ]
              refine take_atH 18 7 hN1 rfl rfl (by kernel_rfl) (by kernel_rfl) (by kernel_rfl) (fun _ _ _ h => h) rfl (fun wq hq => by go_simp; first | done | with_reducible rfl) ?_
              simp only [Act.put, List.setIfInBounds_toArray, List.set_cons_zero, List.set_cons_succ]
              refine wpAnyH_done (by kernel_rfl) ?_ _
              have bw4 := below_step bw3 (Nat.le_refl _) bN1
              go_wp2
              go_roundw
              case rel => exact ⟨k + 1, hkl, by go_num, by rw [HSV.out], bw4⟩
              case measure => simp [intOf]; omega
        · have h1' : ((kd : Int) == 3) = false := beq_eq_false_iff_ne.2 (by omega)
          go_wp2
          go_roundw
          case rel => exact ⟨k + 1, hkl, by go_num, by rw [HSU.out]; simp [h1, ba_empty], bw2⟩
          case measure => simp [intOf]; omega
    · obtain rfl : k = n := by omega
      have hsz := wrP_size s d k hW
      have hE2 := HE.out.below bw
      have hsI := fun I (hI : I < k) => hW.small I hI
      have HQ := hide (rwaits_any a k ca z s d 3 wr hE2 hn)
      go_wp2_with fail
      refine HQ.out.mono ?_
      rintro e w2 ⟨rfl, b2⟩
      have bw2 := below_step bw (Nat.le_refl _) b2
      have hE3 := hE2.below b2
      rcases waitsP_spec z s d 3 k with q4 | ⟨I, hI, hat, _⟩
      · rw [q4]
        have hX : wroteR z s d k = wrP z s d k := by unfold wroteR; rw [q4, if_neg (by omega), ba_empty]
        go_wp2
        go_ret
        exact ⟨by rw [hX]; rfl, bw2⟩
      · rw [hat]
        have hX : wroteR z s d k = wrP z s d k ++ (z I).data := by unfold wroteR; rw [hat, if_pos (by omega), Int.toNat_natCast]
        obtain ⟨lb, lo, rfl, hlb, hlc⟩ := HE.out (by omega)
        have hs0 := hE3.data I hI
        have hDs := hsI I hI
        generalize (z I).data = DD at *
        have hcat : ¬ 9223372036854775807 < (wrP z s d k).size + DD.size := by omega
        have hkI : (I : Int) < (k : Int) := by omega
        clear hlc
        go_wp2
        go_ret
        exact ⟨by rw [hX]; rfl, bw2⟩
end Go.Proofs.Ytkikonknciffiaa
