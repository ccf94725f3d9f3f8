/- The document's small functions on a history: the walks. -/
import Derived.Test.YtkikonknciffiaaHsAcc
namespace Go.Proofs.Ytkikonknciffiaa
open Go.RowKit
set_option linter.unusedVariables false
set_option linter.unusedSimpArgs false

theorem here_any (st : Int) (sd kd dl : Nat) (en : Bool) (id nn : Int) (dt : ByteArray) (er : Int) (s d : Nat) (w : World) :
    Calls Try.prog 40 #[.agg #[.int .i64 st, .int .u8 (sd : Int), .int .u8 (kd : Int), .int .u8 (dl : Int), .bool en, .int .i64 id, .int .i64 nn, .string dt, .int .i64 er], .int .u8 (s : Int), .int .u8 (d : Int)] w fun e w' => e = .returned (.bool (decide (sd = s) && decide (dl = d))) ∧ Below w.heap.size w w' := by
  have b1 := (Below.refl w.heap.size w).alloc (Nat.le_refl _) (.cells #[.int .i64 st, .int .u8 (sd : Int), .int .u8 (kd : Int), .int .u8 (dl : Int), .bool en, .int .i64 id, .int .i64 nn, .string dt, .int .i64 er] 36)
  have E1 : (w.alloc (.cells #[.int .i64 st, .int .u8 (sd : Int), .int .u8 (kd : Int), .int .u8 (dl : Int), .bool en, .int .i64 id, .int .i64 nn, .string dt, .int .i64 er] 36)).heap[w.heap.size]? = some (.cells #[.int .i64 st, .int .u8 (sd : Int), .int .u8 (kd : Int), .int .u8 (dl : Int), .bool en, .int .i64 id, .int .i64 nn, .string dt, .int .i64 er] 36 (0, 0)) := World.alloc_heap_new w _
  have c1 : (w.alloc (.cells #[.int .i64 st, .int .u8 (sd : Int), .int .u8 (kd : Int), .int .u8 (dl : Int), .bool en, .int .i64 id, .int .i64 nn, .string dt, .int .i64 er] 36)).cell? ⟨w.heap.size, 1, none⟩ = some (.int .u8 (sd : Int)) := by simp only [World.cell?, E1]; rfl
  have c3 : (w.alloc (.cells #[.int .i64 st, .int .u8 (sd : Int), .int .u8 (kd : Int), .int .u8 (dl : Int), .bool en, .int .i64 id, .int .i64 nn, .string dt, .int .i64 er] 36)).cell? ⟨w.heap.size, 3, none⟩ = some (.int .u8 (dl : Int)) := by simp only [World.cell?, E1]; rfl
  clear E1
  go_enter Try.func40, Try.ntmps40
  by_cases h1 : sd = s
  · subst h1
    by_cases h2 : dl = d
    · subst h2
      go_wp2
      go_ret
      exact ⟨by simp, b1⟩
    · have h2' : ((dl : Int) == (d : Int)) = false := beq_eq_false_iff_ne.2 (by omega)
      go_wp2
      go_ret
      exact ⟨by simp [h2], b1⟩
  · have h1' : ((sd : Int) == (s : Int)) = false := beq_eq_false_iff_ne.2 (by omega)
    go_wp2
    go_ret
    exact ⟨by simp [h1], b1⟩
theorem rended_any (x : Int) (w : World) : Calls Try.prog 26 #[.int .i64 x] w fun e w' => e = .returned (.bool (endedE x)) ∧ w = w' := by
  go_enter Try.func26, Try.ntmps26
  by_cases h0 : x = 260
  · subst h0
    go_wp2
    go_ret
    exact ⟨rfl, rfl⟩
  · have h1 : (x == 260) = false := beq_eq_false_iff_ne.2 h0
    go_wp2
    go_ret
    exact ⟨by simp [endedE, h0]; rfl, rfl⟩
theorem waitsP_succ (z : Nat → En) (s d k n : Nat) : waitsP z s d k (n + 1) = if (decide ((z n).side = s) && decide ((z n).dlci = d)) = true ∧ (z n).kind = k then (if (z n).ends then -1 else if (z n).err = 0 then (n : Int) else waitsP z s d k n) else waitsP z s d k n := rfl
theorem openedP_succ (z : Nat → En) (s d n : Nat) : openedP z s d (n + 1) = (openedP z s d n || ((decide ((z n).side = s) && decide ((z n).dlci = d)) && (decide ((z n).kind = 1) && (!(z n).ends && decide ((z n).err = 0))))) := rfl
theorem overP_succ (z : Nat → En) (s d n : Nat) : overP z s d (n + 1) = (overP z s d n || ((decide ((z n).side = s) && decide ((z n).dlci = d)) && overE (z n))) := rfl
theorem takenP_succ (z : Nat → En) (s d n : Nat) : takenP z s d (n + 1) = if (decide ((z n).side = s) && decide ((z n).dlci = d)) = true ∧ (z n).kind = 4 ∧ (z n).ends = true then ((takenP z s d n).1 + ((z n).data.size : Int), (takenP z s d n).2 || endedE (z n).err) else takenP z s d n := rfl
theorem openedP_mono {z : Nat → En} {s d : Nat} : ∀ {n m : Nat}, openedP z s d n = true → n ≤ m → openedP z s d m = true := by
  intro n m h hm
  induction m with
  | zero => obtain rfl : n = 0 := by omega
            exact h
  | succ m ih =>
    by_cases e : n = m + 1
    · subst e; exact h
    · rw [openedP_succ, ih (by omega)]; rfl
theorem overP_mono {z : Nat → En} {s d : Nat} : ∀ {n m : Nat}, overP z s d n = true → n ≤ m → overP z s d m = true := by
  intro n m h hm
  induction m with
  | zero => obtain rfl : n = 0 := by omega
            exact h
  | succ m ih =>
    by_cases e : n = m + 1
    · subst e; exact h
    · rw [overP_succ, ih (by omega)]; rfl
set_option maxRecDepth 100000 in
set_option maxHeartbeats 4000000 in
theorem rwaits_any (a : Option Addr) (n ca : Nat) (z : Nat → En) (s d k0 : Nat) (w : World) (hE : HoldsE w a n z) (hn : n ≤ 1000) :
    Calls Try.prog 24 #[.slice a n ca, .int .u8 (s : Int), .int .u8 (d : Int), .int .u8 (k0 : Int)] w fun e w' => e = .returned (.int .i64 (waitsP z s d k0 n)) ∧ Below w.heap.size w w' := by
  have HE := hide hE
  clear hE
  go_enter Try.func24, Try.ntmps24
  go_wp2
  go_loopw [9, 10] (fun x i wr => ∃ k : Nat, k ≤ n ∧ i = .int .i64 (k : Int) ∧ x = .int .i64 (waitsP z s d k0 k) ∧ Below w.heap.size w wr) (fun _ i _ => n - (intOf i).toNat)
  case atStart => exact ⟨0, by omega, rfl, rfl, Below.refl _ _⟩
  case round =>
    obtain ⟨k, hkn, rfl, rfl, bw⟩ := hrel
    by_cases hkl : k < n
    · skip
      have hkl' : (k : Int) < (n : Int) := by omega
      obtain ⟨lb, lo, rfl, hlb, hlc⟩ := HE.out (by omega)
      have hl3 := fun j hj => (bw.cell (p := ⟨lb, _, none⟩) hlb).trans (hlc k hkl j hj)
      have hsu := waitsP_succ z s d k0 k
      obtain ⟨e, hze⟩ : ∃ e, z k = e := ⟨_, rfl⟩
      simp only [hze] at hl3 hsu
      clear hlc
      obtain ⟨st, sd, kd, dl, en, id, nn, dt, er⟩ := e
      obtain ⟨e0, e1, e2, e3, e4, e5, e6, e7, e8⟩ := en_at hl3
      clear hl3
      have HSU := hide hsu
      clear hsu
      go_wp2_with fail
      refine (here_any st sd kd dl en id nn dt er s d _).mono ?_
      rintro e w2 ⟨rfl, b2⟩
      have bw2 := below_step bw (Nat.le_refl _) b2
      have lb2 : lb < wr.heap.size := Nat.lt_of_lt_of_le hlb bw.size
      replace e0 := (b2.cell (p := ⟨lb, _, none⟩) lb2).trans e0
      replace e1 := (b2.cell (p := ⟨lb, _, none⟩) lb2).trans e1
      replace e2 := (b2.cell (p := ⟨lb, _, none⟩) lb2).trans e2
      replace e3 := (b2.cell (p := ⟨lb, _, none⟩) lb2).trans e3
      replace e4 := (b2.cell (p := ⟨lb, _, none⟩) lb2).trans e4
      replace e5 := (b2.cell (p := ⟨lb, _, none⟩) lb2).trans e5
      replace e6 := (b2.cell (p := ⟨lb, _, none⟩) lb2).trans e6
      replace e7 := (b2.cell (p := ⟨lb, _, none⟩) lb2).trans e7
      replace e8 := (b2.cell (p := ⟨lb, _, none⟩) lb2).trans e8
      clear b2
      cases hh : (decide (sd = s) && decide (dl = d)) with
      | false =>
        rw [hh] at HSU
        go_wp2
        go_roundw
        case rel => exact ⟨k + 1, hkl, by go_num, by rw [HSU.out]; simp, bw2⟩
        case measure => simp [intOf]; omega
      | true =>
        rw [hh] at HSU
        by_cases h1 : kd = k0
        · have h1' : ((kd : Int) == (k0 : Int)) = true := by rw [h1]; simp
          cases en with
          | true =>
            go_wp2
            go_roundw
            case rel => exact ⟨k + 1, hkl, by go_num, by rw [HSU.out]; simp [h1], bw2⟩
            case measure => simp [intOf]; omega
          | false =>
            by_cases h2 : er = 0
            · have h2' : (er == 0) = true := by rw [h2]; rfl
              go_wp2
              go_roundw
              case rel => exact ⟨k + 1, hkl, by go_num, by rw [HSU.out]; simp [h1, h2], bw2⟩
              case measure => simp [intOf]; omega
            · have h2' : (er == 0) = false := beq_eq_false_iff_ne.2 h2
              go_wp2
              go_roundw
              case rel => exact ⟨k + 1, hkl, by go_num, by rw [HSU.out]; simp [h1, h2], bw2⟩
              case measure => simp [intOf]; omega
        · have h1' : ((kd : Int) == (k0 : Int)) = false := beq_eq_false_iff_ne.2 (by omega)
          go_wp2
          go_roundw
          case rel => exact ⟨k + 1, hkl, by go_num, by rw [HSU.out]; simp [h1], bw2⟩
          case measure => simp [intOf]; omega
    · obtain rfl : k = n := by omega
      go_wp2
      go_ret
      exact ⟨rfl, bw⟩
set_option maxRecDepth 100000 in
set_option maxHeartbeats 4000000 in
theorem ropened_any (a : Option Addr) (n ca : Nat) (z : Nat → En) (s d : Nat) (w : World) (hE : HoldsE w a n z) (hn : n ≤ 1000) :
    Calls Try.prog 27 #[.slice a n ca, .int .u8 (s : Int), .int .u8 (d : Int)] w fun e w' => e = .returned (.bool (openedP z s d n)) ∧ Below w.heap.size w w' := by
  have HE := hide hE
  clear hE
  go_enter Try.func27, Try.ntmps27
  go_wp2
  go_loopw [7] (fun i wr => ∃ k : Nat, k ≤ n ∧ i = .int .i64 (k : Int) ∧ openedP z s d k = false ∧ Below w.heap.size w wr) (fun i _ => n - (intOf i).toNat)
  case atStart => exact ⟨0, by omega, rfl, rfl, Below.refl _ _⟩
  case round =>
    obtain ⟨k, hkn, rfl, hq, bw⟩ := hrel
    by_cases hkl : k < n
    · skip
      have hkl' : (k : Int) < (n : Int) := by omega
      obtain ⟨lb, lo, rfl, hlb, hlc⟩ := HE.out (by omega)
      have hl3 := fun j hj => (bw.cell (p := ⟨lb, _, none⟩) hlb).trans (hlc k hkl j hj)
      have hsu := openedP_succ z s d k
      obtain ⟨e, hze⟩ : ∃ e, z k = e := ⟨_, rfl⟩
      simp only [hze] at hl3 hsu
      clear hlc
      obtain ⟨st, sd, kd, dl, en, id, nn, dt, er⟩ := e
      obtain ⟨e0, e1, e2, e3, e4, e5, e6, e7, e8⟩ := en_at hl3
      clear hl3
      have HSU := hide hsu
      clear hsu
      go_wp2_with fail
      refine (here_any st sd kd dl en id nn dt er s d _).mono ?_
      rintro e w2 ⟨rfl, b2⟩
      have bw2 := below_step bw (Nat.le_refl _) b2
      have lb2 : lb < wr.heap.size := Nat.lt_of_lt_of_le hlb bw.size
      replace e0 := (b2.cell (p := ⟨lb, _, none⟩) lb2).trans e0
      replace e1 := (b2.cell (p := ⟨lb, _, none⟩) lb2).trans e1
      replace e2 := (b2.cell (p := ⟨lb, _, none⟩) lb2).trans e2
      replace e3 := (b2.cell (p := ⟨lb, _, none⟩) lb2).trans e3
      replace e4 := (b2.cell (p := ⟨lb, _, none⟩) lb2).trans e4
      replace e5 := (b2.cell (p := ⟨lb, _, none⟩) lb2).trans e5
      replace e6 := (b2.cell (p := ⟨lb, _, none⟩) lb2).trans e6
      replace e7 := (b2.cell (p := ⟨lb, _, none⟩) lb2).trans e7
      replace e8 := (b2.cell (p := ⟨lb, _, none⟩) lb2).trans e8
      clear b2
      cases hh : (decide (sd = s) && decide (dl = d)) with
      | false =>
        rw [hh] at HSU
        go_wp2
        go_roundw
        case rel => exact ⟨k + 1, hkl, by go_num, by rw [HSU.out, hq]; simp, bw2⟩
        case measure => simp [intOf]; omega
      | true =>
        rw [hh] at HSU
        by_cases h1 : kd = 1
        · have h1' : ((kd : Int) == 1) = true := by rw [h1]; rfl
          cases en with
          | true =>
            go_wp2
            go_roundw
            case rel => exact ⟨k + 1, hkl, by go_num, by rw [HSU.out, hq]; simp, bw2⟩
            case measure => simp [intOf]; omega
          | false =>
            by_cases h2 : er = 0
            · have h2' : (er == 0) = true := by rw [h2]; rfl
              go_wp2
              go_ret
              exact ⟨by rw [openedP_mono (n := k + 1) (by rw [HSU.out]; simp [h1, h2]) hkl]; rfl, bw2⟩
            · have h2' : (er == 0) = false := beq_eq_false_iff_ne.2 h2
              go_wp2
              go_roundw
              case rel => exact ⟨k + 1, hkl, by go_num, by rw [HSU.out, hq]; simp [h2], bw2⟩
              case measure => simp [intOf]; omega
        · have h1' : ((kd : Int) == 1) = false := beq_eq_false_iff_ne.2 (by omega)
          go_wp2
          go_roundw
          case rel => exact ⟨k + 1, hkl, by go_num, by rw [HSU.out, hq]; simp [h1], bw2⟩
          case measure => simp [intOf]; omega
    · obtain rfl : k = n := by omega
      go_wp2
      go_ret
      exact ⟨by rw [hq]; rfl, bw⟩
set_option maxRecDepth 100000 in
set_option maxHeartbeats 4000000 in
theorem rover_any (a : Option Addr) (n ca : Nat) (z : Nat → En) (s d : Nat) (w : World) (hE : HoldsE w a n z) (hn : n ≤ 1000) :
    Calls Try.prog 25 #[.slice a n ca, .int .u8 (s : Int), .int .u8 (d : Int)] w fun e w' => e = .returned (.bool (overP z s d n)) ∧ Below w.heap.size w w' := by
  have HE := hide hE
  clear hE
  go_enter Try.func25, Try.ntmps25
  go_wp2
  go_loopw [7] (fun i wr => ∃ k : Nat, k ≤ n ∧ i = .int .i64 (k : Int) ∧ overP z s d k = false ∧ Below w.heap.size w wr) (fun i _ => n - (intOf i).toNat)
  case atStart => exact ⟨0, by omega, rfl, rfl, Below.refl _ _⟩
  case round =>
    obtain ⟨k, hkn, rfl, hq, bw⟩ := hrel
    by_cases hkl : k < n
    · skip
      have hkl' : (k : Int) < (n : Int) := by omega
      obtain ⟨lb, lo, rfl, hlb, hlc⟩ := HE.out (by omega)
      have hl3 := fun j hj => (bw.cell (p := ⟨lb, _, none⟩) hlb).trans (hlc k hkl j hj)
      have hsu := overP_succ z s d k
      obtain ⟨e, hze⟩ : ∃ e, z k = e := ⟨_, rfl⟩
      simp only [hze] at hl3 hsu
      clear hlc
      obtain ⟨st, sd, kd, dl, en, id, nn, dt, er⟩ := e
      obtain ⟨e0, e1, e2, e3, e4, e5, e6, e7, e8⟩ := en_at hl3
      clear hl3
      have HSU := hide hsu
      clear hsu
      have b1 := (Below.refl wr.heap.size wr).alloc (Nat.le_refl _) (.cells #[.int .i64 st, .int .u8 (sd : Int), .int .u8 (kd : Int), .int .u8 (dl : Int), .bool en, .int .i64 id, .int .i64 nn, .string dt, .int .i64 er] 36)
      have E1 : (wr.alloc (.cells #[.int .i64 st, .int .u8 (sd : Int), .int .u8 (kd : Int), .int .u8 (dl : Int), .bool en, .int .i64 id, .int .i64 nn, .string dt, .int .i64 er] 36)).heap[wr.heap.size]? = some (.cells #[.int .i64 st, .int .u8 (sd : Int), .int .u8 (kd : Int), .int .u8 (dl : Int), .bool en, .int .i64 id, .int .i64 nn, .string dt, .int .i64 er] 36 (0, 0)) := World.alloc_heap_new wr _
      have hc : ∀ q, (wr.alloc (.cells #[.int .i64 st, .int .u8 (sd : Int), .int .u8 (kd : Int), .int .u8 (dl : Int), .bool en, .int .i64 id, .int .i64 nn, .string dt, .int .i64 er] 36)).cell? ⟨wr.heap.size, q, none⟩ = (#[.int .i64 st, .int .u8 (sd : Int), .int .u8 (kd : Int), .int .u8 (dl : Int), .bool en, .int .i64 id, .int .i64 nn, .string dt, .int .i64 er] : Array Value)[q]? := fun q => by simp only [World.cell?, E1]; rfl
      have hlt : wr.heap.size < (wr.alloc (.cells #[.int .i64 st, .int .u8 (sd : Int), .int .u8 (kd : Int), .int .u8 (dl : Int), .bool en, .int .i64 id, .int .i64 nn, .string dt, .int .i64 er] 36)).heap.size := by rw [World.size_alloc]; omega
      have bw1 := below_step bw (Nat.le_refl _) b1
      have c0 := hc 0
      have c1 := hc 1
      have c2 := hc 2
      have c3 := hc 3
      have c4 := hc 4
      have c5 := hc 5
      have c6 := hc 6
      have c7 := hc 7
      have c8 := hc 8
      simp only [List.getElem?_toArray, List.getElem?_cons_zero, List.getElem?_cons_succ] at c0 c1 c2 c3 c4 c5 c6 c7 c8
      clear E1 hc b1
      go_upto_region 5 with (fail)
      generalize wr.alloc (.cells #[.int .i64 st, .int .u8 (sd : Int), .int .u8 (kd : Int), .int .u8 (dl : Int), .bool en, .int .i64 id, .int .i64 nn, .string dt, .int .i64 er] 36) = w1 at *
      clear e0 e1 e2 e3 e4 e5 e6 e7 e8
      go_wp2_with fail
      refine (here_any st sd kd dl en id nn dt er s d _).mono ?_
      rintro e w2 ⟨rfl, b2⟩
      have bw2 := below_step bw1 (Nat.le_refl _) b2
      replace c2 := (b2.cell (p := ⟨wr.heap.size, 2, none⟩) hlt).trans c2
      replace c4 := (b2.cell (p := ⟨wr.heap.size, 4, none⟩) hlt).trans c4
      replace c8 := (b2.cell (p := ⟨wr.heap.size, 8, none⟩) hlt).trans c8
      clear b2 c0 c1 c3 c5 c6 c7
      cases hh : (decide (sd = s) && decide (dl = d)) with
      | false =>
        rw [hh] at HSU
        go_wp2
        go_roundw
        case rel => exact ⟨k + 1, hkl, by go_num, by rw [HSU.out, hq]; simp, bw2⟩
        case measure => simp [intOf]; omega
      | true =>
        rw [hh] at HSU
        by_cases h5 : kd = 5
        · have h5' : ((kd : Int) == 5) = true := by rw [h5]; rfl
          have h3' : ¬ (kd : Int) ≤ 3 := by omega
          cases en with
          | true =>
            go_wp2
            go_roundw
            case rel => exact ⟨k + 1, hkl, by go_num, by rw [HSU.out, hq]; simp [overE, h5], bw2⟩
            case measure => simp [intOf]; omega
          | false =>
            by_cases h2 : er = 0
            · have h2' : (er == 0) = true := by rw [h2]; rfl
              go_wp2
              go_ret
              exact ⟨by rw [overP_mono (n := k + 1) (by rw [HSU.out]; simp [overE, h5, h2]) hkl]; rfl, bw2⟩
            · have h2' : (er == 0) = false := beq_eq_false_iff_ne.2 h2
              go_wp2
              go_roundw
              case rel => exact ⟨k + 1, hkl, by go_num, by rw [HSU.out, hq]; simp [overE, h2], bw2⟩
              case measure => simp [intOf]; omega
        · have h5' : ((kd : Int) == 5) = false := beq_eq_false_iff_ne.2 (by omega)
          by_cases h3 : kd ≤ 3
          · have h3' : (kd : Int) ≤ 3 := by omega
            cases en with
            | true =>
              go_wp2_with fail
              refine (rended_any er _).mono ?_
              rintro e w3 ⟨rfl, rfl⟩
              cases hed : endedE er with
              | true =>
                go_wp2
                go_ret
                exact ⟨by rw [overP_mono (n := k + 1) (by rw [HSU.out]; simp [overE, h3, hed]) hkl]; rfl, bw2⟩
              | false =>
                go_wp2
                go_roundw
                case rel => exact ⟨k + 1, hkl, by go_num, by rw [HSU.out, hq]; simp [overE, h5, hed], bw2⟩
                case measure => simp [intOf]; omega
            | false =>
              go_wp2
              go_roundw
              case rel => exact ⟨k + 1, hkl, by go_num, by rw [HSU.out, hq]; simp [overE, h5], bw2⟩
              case measure => simp [intOf]; omega
          · have h3' : ¬ (kd : Int) ≤ 3 := by omega
            go_wp2
            go_roundw
            case rel => exact ⟨k + 1, hkl, by go_num, by rw [HSU.out, hq]; simp [overE, h5, h3], bw2⟩
            case measure => simp [intOf]; omega
    · obtain rfl : k = n := by omega
      go_wp2
      go_ret
      exact ⟨by rw [hq]; rfl, bw⟩
set_option maxRecDepth 100000 in
set_option maxHeartbeats 4000000 in
theorem rtaken_any (a : Option Addr) (n ca : Nat) (z : Nat → En) (s d : Nat) (w : World) (hE : HoldsE w a n z) (hn : n ≤ 1000) (hW : Wf z n) :
    Calls Try.prog 28 #[.slice a n ca, .int .u8 (s : Int), .int .u8 (d : Int)] w fun e w' => e = .returned (.tuple #[.int .i64 (takenP z s d n).1, .bool (takenP z s d n).2]) ∧ Below w.heap.size w w' := by
  have HE := hide hE
  clear hE
  go_enter Try.func28, Try.ntmps28
  go_wp2
  go_loopw [8, 9, 10] (fun x y i wr => ∃ k : Nat, k ≤ n ∧ i = .int .i64 (k : Int) ∧ x = .int .i64 (takenP z s d k).1 ∧ y = .bool (takenP z s d k).2 ∧ Below w.heap.size w wr) (fun _ _ i _ => n - (intOf i).toNat)
  case atStart => exact ⟨0, by omega, rfl, rfl, rfl, Below.refl _ _⟩
  case round =>
    obtain ⟨k, hkn, rfl, rfl, rfl, bw⟩ := hrel
    by_cases hkl : k < n
    · skip
      have hkl' : (k : Int) < (n : Int) := by omega
      obtain ⟨lb, lo, rfl, hlb, hlc⟩ := HE.out (by omega)
      have hl3 := fun j hj => (bw.cell (p := ⟨lb, _, none⟩) hlb).trans (hlc k hkl j hj)
      have hsu := takenP_succ z s d k
      obtain ⟨e, hze⟩ : ∃ e, z k = e := ⟨_, rfl⟩
      have hsz0 := hW.small k hkl
      simp only [hze] at hl3 hsu hsz0
      clear hlc
      obtain ⟨st, sd, kd, dl, en, id, nn, dt, er⟩ := e
      obtain ⟨e0, e1, e2, e3, e4, e5, e6, e7, e8⟩ := en_at hl3
      clear hl3
      have HSU := hide hsu
      clear hsu
      have hgt := takenP_ge z s d k
      have hlt := takenP_le s d k (hW.mono hkn)
      have hsz : dt.size ≤ 60 := hsz0
      have hwr : IntKind.i64.wrap ((takenP z s d k).1 + (dt.size : Int)) = (takenP z s d k).1 + (dt.size : Int) := IntWalk.i64_in _ (by omega)
      have HSZ := hide hsz
      clear hsz hgt hlt
      go_wp2_with fail
      refine (here_any st sd kd dl en id nn dt er s d _).mono ?_
      rintro e w2 ⟨rfl, b2⟩
      have bw2 := below_step bw (Nat.le_refl _) b2
      have lb2 : lb < wr.heap.size := Nat.lt_of_lt_of_le hlb bw.size
      replace e0 := (b2.cell (p := ⟨lb, _, none⟩) lb2).trans e0
      replace e1 := (b2.cell (p := ⟨lb, _, none⟩) lb2).trans e1
      replace e2 := (b2.cell (p := ⟨lb, _, none⟩) lb2).trans e2
      replace e3 := (b2.cell (p := ⟨lb, _, none⟩) lb2).trans e3
      replace e4 := (b2.cell (p := ⟨lb, _, none⟩) lb2).trans e4
      replace e5 := (b2.cell (p := ⟨lb, _, none⟩) lb2).trans e5
      replace e6 := (b2.cell (p := ⟨lb, _, none⟩) lb2).trans e6
      replace e7 := (b2.cell (p := ⟨lb, _, none⟩) lb2).trans e7
      replace e8 := (b2.cell (p := ⟨lb, _, none⟩) lb2).trans e8
      clear b2
      cases hh : (decide (sd = s) && decide (dl = d)) with
      | false =>
        rw [hh] at HSU
        go_wp2
        go_roundw
        case rel => exact ⟨k + 1, hkl, by go_num, by rw [HSU.out]; simp, by rw [HSU.out]; simp, bw2⟩
        case measure => simp [intOf]; omega
      | true =>
        rw [hh] at HSU
        by_cases h1 : kd = 4
        · have h1' : ((kd : Int) == 4) = true := by rw [h1]; rfl
          cases en with
          | false =>
            go_wp2
            go_roundw
            case rel => exact ⟨k + 1, hkl, by go_num, by rw [HSU.out]; simp, by rw [HSU.out]; simp, bw2⟩
            case measure => simp [intOf]; omega
          | true =>
            have HS2 := HSU.out
            rw [if_pos ⟨rfl, h1, rfl⟩] at HS2
            have HSV := hide HS2
            clear HS2
            cases hd : (takenP z s d k).2 with
            | true =>
              rw [hd] at HSV
              go_wp2
              go_roundw
              case rel => exact ⟨k + 1, hkl, by go_num, by rw [HSV.out], by rw [HSV.out]; rfl, bw2⟩
              case measure => simp [intOf]; omega
            | false =>
              rw [hd] at HSV
              go_wp2_with fail
              refine (rended_any er _).mono ?_
              rintro e w3 ⟨rfl, rfl⟩
              go_wp2
              go_roundw
              case rel => exact ⟨k + 1, hkl, by go_num, by rw [HSV.out], by rw [HSV.out]; rfl, bw2⟩
              case measure => simp [intOf]; omega
        · have h1' : ((kd : Int) == 4) = false := beq_eq_false_iff_ne.2 (by omega)
          go_wp2
          go_roundw
          case rel => exact ⟨k + 1, hkl, by go_num, by rw [HSU.out]; simp [h1], by rw [HSU.out]; simp [h1], bw2⟩
          case measure => simp [intOf]; omega
    · obtain rfl : k = n := by omega
      go_wp2
      go_ret2
      exact ⟨rfl, bw⟩
end Go.Proofs.Ytkikonknciffiaa
