/- The law BasicKnown: the examples, and frames of each kind. -/
import Derived.Test.YtfggjmdjcjhjfaaDoorBasTurn
namespace Go.Proofs.YtfggjmdjcjhjfaaDoor
open Go.RowKit
set_option linter.unusedVariables false
set_option linter.unusedSimpArgs false

theorem RowB.below {w w' : World} {g : Nat} {l : List Nat} (h : RowB w g l) (hg : g < w.heap.size) (hb : Below w.heap.size w w') : RowB w' g l := fun j hj =>
  ⟨(World.cell?_of_block (a := ⟨g, j, none⟩) (hb.block g hg)).trans (h j hj).1, (World.frozen?_of_block (a := ⟨g, j, none⟩) (hb.block g hg)).trans (h j hj).2⟩
theorem RowB.front {w : World} {g n c : Nat} {l : List Nat} (h : RowB w g l) (hn : n ≤ l.length) : (convert 34 9 (.slice (some ⟨g, 0, none⟩) n c)).run Tryd.prog w = .ok (.string (st (l.take n))) w :=
  run_st g n c (l.take n) w (by rw [List.length_take]; omega) fun i hi => by
    rw [Nat.zero_add, (h i (by omega)).1]
    simp only [List.getD, List.getElem?_take, hi, if_pos]
theorem rowB_zeros (W : World) (n : Nat) : RowB (W.alloc (zeros n)) W.heap.size (List.replicate n 0) := by
  intro j hj
  rw [List.length_replicate] at hj
  constructor
  · unfold zeros
    rw [World.cell?_alloc_new, ← Array.getElem?_toList, show (Value.int .u8 0).cells = #[Value.int .u8 0] from rfl, toList_madeCells_one]
    simp [hj, List.getD]
  · show (match (W.heap.push (zeros n))[W.heap.size]? with | some (.cells _ _ (lo, hi)) => decide (lo ≤ j) && decide (j < hi) | _ => false) = _
    rw [Array.getElem?_push_size]
    unfold zeros
    simp
theorem bytes_take {l : List Nat} (h : Bytes l) (n : Nat) : Bytes (l.take n) := fun x hx => h x (List.mem_of_mem_take hx)

/-- A frame of few numbers. -/
theorem ret_frame1 {fn : Func} {R : Ending → World → Prop} {a : Act} {W : World} {g d k s r : Nat} {c p : Bool} {i : ByteArray} (hb : FrBlk W g d c k p s r i) (hg : a.tmps.getD 4 undef = .pointer (some ⟨g, 0, none⟩)) (hd : a.defers = [])
    (h : R (.returned (frV d c k p s r i)) W) (hf : fn.results = #[.cell 4 23] := by rfl) : bodyPost Tryd.prog fn R .ret a W := by
  refine bodyPost_ret (v := frV d c k p s r i) ?_ hd h
  obtain ⟨c0, c1, c2, c3, c4, c5, c6, f0, f1, f2, f3, f4, f5, f6⟩ := zero_cells hb
  simp at hg
  simp [results, hf, go_sem, hg, c0, c1, c2, c3, c4, c5, c6, frV]
theorem zfr_blk (w : World) : FrBlk (w.alloc (.cells #[.int .u8 0, .bool false, .int .u8 0, .bool false, .int .u8 0, .int .u8 0, .string ⟨#[]⟩] 23)) w.heap.size 0 false 0 false 0 0 ⟨#[]⟩ := World.alloc_heap_new w _
set_option maxRecDepth 100000 in
set_option maxHeartbeats 2000000 in
theorem frame_any (n : Nat) (i : ByteArray) (w : World) (hn : n ≤ 400) :
    Calls Tryd.prog 16 #[.int .i64 (n : Int), .string i] w fun e w' => (∃ d c k p s r, e = .returned (frV d c k p s r i) ∧ d ≤ 255 ∧ k ≤ 255 ∧ s ≤ 255 ∧ r ≤ 255) ∧ Below w.heap.size w w' := by
  have m66 : (n : Int) * 7 % 66 = ((n * 7 % 66 : Nat) : Int) := by omega
  have l66 : n * 7 % 66 < 66 := Nat.mod_lt _ (by omega)
  have m12 : (n : Int) % 12 = ((n % 12 : Nat) : Int) := rfl
  have l12 : n % 12 < 12 := Nat.mod_lt _ (by omega)
  have m9 : (n : Int) % 9 = ((n % 9 : Nat) : Int) := rfl
  have l9 : n % 9 < 9 := Nat.mod_lt _ (by omega)
  have m99 : (n : Int) / 9 % 9 = ((n / 9 % 9 : Nat) : Int) := rfl
  have l99 : n / 9 % 9 < 9 := Nat.mod_lt _ (by omega)
  generalize n * 7 % 66 = d1 at *
  generalize n % 12 = k1 at *
  generalize n % 9 = s1 at *
  generalize n / 9 % 9 = r1 at *
  obtain ⟨cb, hcb⟩ : ∃ cb : Bool, ((n : Int) % 2 == 0) = cb := ⟨_, rfl⟩
  obtain ⟨pb, hpb⟩ : ∃ pb : Bool, ((n : Int) % 3 == 0) = pb := ⟨_, rfl⟩
  have Z := zfr_blk w
  have hB := (Below.refl w.heap.size w).alloc (Nat.le_refl _) (.cells #[.int .u8 0, .bool false, .int .u8 0, .bool false, .int .u8 0, .int .u8 0, .string ⟨#[]⟩] 23)
  go_enter Tryd.func16, Tryd.ntmps16
  go_upto_region 1 with (fail)
  generalize w.alloc (.cells #[.int .u8 0, .bool false, .int .u8 0, .bool false, .int .u8 0, .int .u8 0, .string ⟨#[]⟩] 23) = w1 at *
  obtain ⟨c0, c1, c2, c3, c4, c5, c6, f0, f1, f2, f3, f4, f5, f6⟩ := zero_cells Z
  go_wp2
  exact ret_frame1 (frBlk_set7 Z d1 cb k1 pb s1 r1 i) rfl rfl ⟨⟨d1, cb, k1, pb, s1, r1, rfl, by omega, by omega, by omega, by omega⟩, below_set7 hB (Nat.le_refl _) _ _ _ _ _ _ _⟩

/-- The world of the loops: the long row lies in it. -/
structure SAt (w W : World) (g : Nat) (l : List Nat) : Prop where
  below : Below w.heap.size w W
  row : RowB W g l
  lt : g < W.heap.size
theorem SAt.step {w W W' : World} {g : Nat} {l : List Nat} (h : SAt w W g l) (hb : Below W.heap.size W W') : SAt w W' g l :=
  ⟨below_step h.below (Nat.le_refl _) hb, h.row.below h.lt hb, Nat.lt_of_lt_of_le h.lt hb.size⟩
theorem SAt.alloc {w W : World} {g : Nat} {l : List Nat} (h : SAt w W g l) (o : Obj) : SAt w (W.alloc o) g l := h.step ((Below.refl _ _).alloc (Nat.le_refl _) o)
def nums : List Nat := [0, 1, 126, 127, 128, 129]
theorem nums_le : ∀ j, j < 6 → nums.getD j 0 ≤ 129 := by decide
abbrev numsO : Obj := .cells #[.int .i64 0, .int .i64 1, .int .i64 126, .int .i64 127, .int .i64 128, .int .i64 129] 3
theorem nums_cell (W : World) (j : Nat) (hj : j < 6) : (W.alloc numsO).cell? ⟨W.heap.size, j, none⟩ = some (.int .i64 (nums.getD j 0 : Nat)) := by
  rw [World.cell?_alloc_new]
  rcases (show j = 0 ∨ j = 1 ∨ j = 2 ∨ j = 3 ∨ j = 4 ∨ j = 5 by omega) with rfl | rfl | rfl | rfl | rfl | rfl <;> rfl
structure TAt (w W : World) (g : Nat) (l : List Nat) (a : Nat) : Prop where
  sat : SAt w W g l
  cells : ∀ j, j < 6 → W.cell? ⟨a, j, none⟩ = some (.int .i64 (nums.getD j 0 : Nat))
  lta : a < W.heap.size
theorem TAt.step {w W W' : World} {g a : Nat} {l : List Nat} (h : TAt w W g l a) (hb : Below W.heap.size W W') : TAt w W' g l a :=
  ⟨h.sat.step hb, fun j hj => (hb.cell (p := ⟨a, j, none⟩) h.lta).trans (h.cells j hj), Nat.lt_of_lt_of_le h.lta hb.size⟩
structure UAt (w : World) (g : Nat) (l : List Nat) (a gf kd : Nat) (i : ByteArray) (W : World) : Prop where
  tat : TAt w W g l a
  blk : FrBlk W gf 1 true kd false 0 0 i
  ltf : gf < W.heap.size
theorem UAt.step {w W W' : World} {g a gf kd : Nat} {l : List Nat} {i : ByteArray} (h : UAt w g l a gf kd i W) (hb : Below W.heap.size W W') : UAt w g l a gf kd i W' :=
  ⟨h.tat.step hb, (hb.block _ h.ltf).trans h.blk, Nat.lt_of_lt_of_le h.ltf hb.size⟩
theorem UAt.below {w W : World} {g a gf kd : Nat} {l : List Nat} {i : ByteArray} (h : UAt w g l a gf kd i W) : Below w.heap.size w W := h.tat.sat.below
def bys : List Nat := [1, 2, 16, 128, 255]
theorem bys_le : ∀ j, j < 5 → bys.getD j 0 ≤ 255 := by decide
abbrev bysO : Obj := .cells #[.int .u8 1, .int .u8 2, .int .u8 16, .int .u8 128, .int .u8 255] 5
theorem bys_cell (W : World) (j : Nat) (hj : j < 5) : (W.alloc bysO).cell? ⟨W.heap.size, j, none⟩ = some (.int .u8 (bys.getD j 0 : Nat)) := by
  rw [World.cell?_alloc_new]
  rcases (show j = 0 ∨ j = 1 ∨ j = 2 ∨ j = 3 ∨ j = 4 by omega) with rfl | rfl | rfl | rfl | rfl <;> rfl
structure VAt (w W : World) (a : Nat) : Prop where
  below : Below w.heap.size w W
  cells : ∀ j, j < 5 → W.cell? ⟨a, j, none⟩ = some (.int .u8 (bys.getD j 0 : Nat))
  lta : a < W.heap.size
theorem VAt.step {w W W' : World} {a : Nat} (h : VAt w W a) (hb : Below W.heap.size W W') : VAt w W' a :=
  ⟨below_step h.below (Nat.le_refl _) hb, fun j hj => (hb.cell (p := ⟨a, j, none⟩) h.lta).trans (h.cells j hj), Nat.lt_of_lt_of_le h.lta hb.size⟩

set_option maxRecDepth 100000 in
set_option maxHeartbeats 8000000 in
theorem basKnown_any (w : World) (hh : Octs w) (hf : Half w) :
    Calls Tryd.prog 7 #[] w fun e w' => e = .returned (.bool true) ∧ Below w.heap.size w w' := by
  have HO := hide (fun W (hb : Below w.heap.size w W) => hh.below hb)
  have HF := hide (fun W (hb : Below w.heap.size w W) => hf.below hb)
  clear hh hf
  have hmk : (Instr.makeSlice 34 (.int .i64 129) (.int .i64 129)).run Tryd.prog w = .ok (.slice (some ⟨w.heap.size, 0, none⟩) 129 129) (w.alloc (zeros 129)) := run_make_u8 129 (by omega) w
  have S0 : SAt w (w.alloc (zeros 129)) w.heap.size (List.replicate 129 0) := ⟨(Below.refl _ _).alloc (Nat.le_refl _) _, rowB_zeros w 129, by simp⟩
  obtain ⟨o, ho⟩ : ∃ o, zeros 129 = o := ⟨_, rfl⟩
  rw [ho] at hmk S0
  obtain ⟨w1, hw1⟩ : ∃ w1, w.alloc o = w1 := ⟨_, rfl⟩
  rw [hw1] at hmk S0
  go_enter Tryd.func7, Tryd.ntmps7
  go_wp2
  clear hw1 hmk
  obtain ⟨g, hg⟩ : ∃ g, w.heap.size = g := ⟨_, rfl⟩
  have hgl : w.heap.size ≤ g := by omega
  rw [hg] at S0 ⊢
  go_loopw [2] (fun i wr => ∃ k : Nat, k ≤ 129 ∧ i = .int .i64 (k : Int) ∧ ∃ l, SAt w wr g l ∧ l.length = 129 ∧ Bytes l) (fun i _ => 129 - (intOf i).toNat)
  case atStart => exact ⟨0, by omega, rfl, _, S0, by simp, fun x hx => by rw [List.eq_of_mem_replicate hx]; omega⟩
  case round =>
    obtain ⟨k, hk, rfl, l, hS, hl, hBy⟩ := hrel
    clear S0
    by_cases hlt : k < 129
    · have e3 : (k : Int) < 129 := by omega
      obtain ⟨r1, r2⟩ := hS.row k (by omega)
      obtain ⟨v, hv⟩ : ∃ v, k * 7 % 256 = v := ⟨_, rfl⟩
      have hv2 : (k : Int) * 7 % 256 = (v : Int) := by omega
      have hv3 : v < 256 := by omega
      have R := hS.row.set (j := k) (by omega) v
      have S1 : SAt w (wr.setCell ⟨g, k, none⟩ (.int .u8 (v : Int))) g (l.set k v) := ⟨hS.below.setCell (p := ⟨g, k, none⟩) hgl _, R, by simpa using hS.lt⟩
      have hB2 := bytes_set hBy k v hv3
      have hl2 : (l.set k v).length = 129 := by rw [List.length_set]; exact hl
      clear R hv
      go_wp2
      go_roundw
      case rel => exact ⟨k + 1, by omega, by go_num, _, S1, hl2, hB2⟩
      case measure => simp [intOf]; omega
    · have hk9 : ¬ (k : Int) < 129 := by omega
      clear hlt hk
      go_wp2
      go_loopw [3] (fun i wr => ∃ n : Nat, n ≤ 400 ∧ i = .int .i64 (n : Int) ∧ SAt w wr g l) (fun i _ => 400 - (intOf i).toNat)
      case atStart => exact ⟨0, by omega, rfl, hS⟩
      case round =>
        obtain ⟨n, hn, rfl, hS2⟩ := hrel
        clear hS
        by_cases hlt : n < 400
        · have e3 : (n : Int) < 400 := by omega
          obtain ⟨x, hx, hxs⟩ : ∃ x : ByteArray, (∀ W : World, (W.alloc (.cells #[.string ⟨#[]⟩, .string ⟨#[97]⟩, .string ⟨#[249, 126]⟩] 9)).cell? ⟨W.heap.size, n % 3, none⟩ = some (.string x)) ∧ x.size ≤ 2 := by
            rcases (show n % 3 = 0 ∨ n % 3 = 1 ∨ n % 3 = 2 by omega) with h | h | h
            · exact ⟨⟨#[]⟩, fun W => by rw [h, World.cell?_alloc_new]; rfl, by decide⟩
            · exact ⟨⟨#[97]⟩, fun W => by rw [h, World.cell?_alloc_new]; rfl, by decide⟩
            · exact ⟨⟨#[249, 126]⟩, fun W => by rw [h, World.cell?_alloc_new]; rfl, by decide⟩
          have hx1 := hx wr
          have hm3 : (n : Int) % 3 = ((n % 3 : Nat) : Int) := rfl
          have hl3 : n % 3 < 3 := Nat.mod_lt _ (by omega)
          clear hx
          generalize n % 3 = m3 at *
          have hl3' : (m3 : Int) < 3 := by omega
          have S3 := hS2.alloc (.cells #[.string ⟨#[]⟩, .string ⟨#[97]⟩, .string ⟨#[249, 126]⟩] 9)
          go_wp2_with fail
          refine (frame_any n x _ (by omega)).mono ?_
          rintro e w4 ⟨⟨d1, cb, k1, pb, s1, r1, rfl, b1, b2, b3, b4⟩, hb4⟩
          unfold frV
          have S4 := S3.step hb4
          clear S3 hb4 hx1 hS2
          have S5 := S4.alloc (.cells #[.int .u8 (d1 : Int), .bool cb, .int .u8 (k1 : Int), .bool pb, .int .u8 (s1 : Int), .int .u8 (r1 : Int), .string x] 23)
          have F5 : FrBlk (w4.alloc (.cells #[.int .u8 (d1 : Int), .bool cb, .int .u8 (k1 : Int), .bool pb, .int .u8 (s1 : Int), .int .u8 (r1 : Int), .string x] 23)) w4.heap.size d1 cb k1 pb s1 r1 x := World.alloc_heap_new w4 _
          have hlt5 : w4.heap.size < (w4.alloc (.cells #[.int .u8 (d1 : Int), .bool cb, .int .u8 (k1 : Int), .bool pb, .int .u8 (s1 : Int), .int .u8 (r1 : Int), .string x] 23)).heap.size := by simp
          have hxm : x.size ≤ maxLen := by unfold maxLen; omega
          go_upto_region 10 with (fail)
          obtain ⟨gf, hgf⟩ : ∃ gf, w4.heap.size = gf := ⟨_, rfl⟩
          rw [hgf] at F5 hlt5 ⊢
          generalize w4.alloc (.cells #[.int .u8 (d1 : Int), .bool cb, .int .u8 (k1 : Int), .bool pb, .int .u8 (s1 : Int), .int .u8 (r1 : Int), .string x] 23) = w5 at *
          clear S4 hgf hm3
          obtain ⟨a0, a1, a2, a3, a4, a5, a6, _⟩ := zero_cells F5
          go_wp2_with fail
          refine (basEncodes_any d1 k1 s1 r1 cb pb x _ _ _ (HO.out _ S5.below) (HF.out _ S5.below) b1 b2 b3 b4 hxm).mono ?_
          rintro e w6 ⟨rfl, hb6⟩
          have S6 := S5.step hb6
          have F6 : FrBlk w6 gf d1 cb k1 pb s1 r1 x := (hb6.block _ hlt5).trans F5
          have hlt6 := Nat.lt_of_lt_of_le hlt5 hb6.size
          clear S5 F5 hb6 hlt5 a0 a1 a2 a3 a4 a5 a6
          obtain ⟨a0, a1, a2, a3, a4, a5, a6, _⟩ := zero_cells F6
          go_wp2_with fail
          refine (basBack_any d1 k1 s1 r1 cb pb x _ _ _ _ (HO.out _ S6.below) (HF.out _ S6.below) b1 b2 b3 b4 hxm (by decide)).mono ?_
          rintro e w7 ⟨rfl, hb7⟩
          have S7 := S6.step hb7
          have F7 : FrBlk w7 gf d1 cb k1 pb s1 r1 x := (hb7.block _ hlt6).trans F6
          clear S6 F6 hb7 hlt6 a0 a1 a2 a3 a4 a5 a6
          obtain ⟨a0, a1, a2, a3, a4, a5, a6, _⟩ := zero_cells F7
          by_cases h4 : (n : Int) % 4 = 0
          · go_wp2_with fail
            refine (basTurned_any d1 k1 s1 r1 cb pb x _ _ _ _ _ _ (HO.out _ S7.below) (HF.out _ S7.below) b1 b2 b3 b4 hxm (by omega) (by omega) (by omega) (by omega) (by omega) (by omega) (by omega) (by omega)).mono ?_
            rintro e w8 ⟨rfl, hb8⟩
            have S8 := S7.step hb8
            clear S7 F7 hb8 a0 a1 a2 a3 a4 a5 a6
            go_wp2
            go_roundw
            case rel => exact ⟨n + 1, by omega, by go_num, S8⟩
            case measure => simp [intOf]; omega
          · have h4' : ((n : Int) % 4 == 0) = false := by rw [beq_eq_false_iff_ne]; exact h4
            go_wp2
            go_roundw
            case rel => exact ⟨n + 1, by omega, by go_num, S7⟩
            case measure => simp [intOf]; omega
        · have hn9 : ¬ (n : Int) < 400 := by omega
          clear hlt hn
          go_wp2
          have T0 : TAt w (wr.alloc numsO) g l wr.heap.size := ⟨hS2.alloc _, nums_cell wr, by simp⟩
          unfold numsO at T0
          generalize wr.alloc (.cells #[.int .i64 0, .int .i64 1, .int .i64 126, .int .i64 127, .int .i64 128, .int .i64 129] 3) = w3 at *
          obtain ⟨a, ha⟩ : ∃ a, wr.heap.size = a := ⟨_, rfl⟩
          rw [ha] at T0 ⊢
          clear hS2 ha
          go_loopw [77] (fun i wr => ∃ j : Nat, j ≤ 6 ∧ i = .int .i64 (j : Int) ∧ TAt w wr g l a) (fun i _ => 6 - (intOf i).toNat)
          case atStart => exact ⟨0, by omega, rfl, T0⟩
          case round =>
            obtain ⟨j, hj, rfl, hT⟩ := hrel
            clear T0
            by_cases hjl : j < 6
            · have q9 := hT.cells j hjl
              have hv := nums_le j hjl
              have e4 : (j : Int) < 6 := by omega
              have da : decide ((j : Int) < 6) = true := decide_eq_true e4
              generalize nums.getD j 0 = v at *
              go_wp2
              go_loopw [7] (fun i wr => ∃ kd : Nat, 5 ≤ kd ∧ kd ≤ 8 ∧ i = .int .u8 (kd : Int) ∧ TAt w wr g l a) (fun i _ => 8 - (intOf i).toNat)
              case atStart => exact ⟨5, by omega, by omega, rfl, hT⟩
              case round =>
                obtain ⟨kd, hkd5, hkd, rfl, hT2⟩ := hrel
                clear hT q9
                by_cases hkl : kd < 8
                · have e5 : (kd : Int) < 8 := by omega
                  have hpk : putOk kd 0 0 = true := by rcases (show kd = 5 ∨ kd = 6 ∨ kd = 7 by omega) with rfl | rfl | rfl <;> rfl
                  have hcv := hT2.sat.row.front (n := v) (c := 129) (by omega)
                  have hisz : (st (l.take v)).size = v := by rw [st_size, List.length_take]; omega
                  obtain ⟨i, hi⟩ : ∃ i, st (l.take v) = i := ⟨_, rfl⟩
                  rw [hi] at hcv hisz
                  have hiL : i.size ≤ maxLen := by unfold maxLen; omega
                  have hiM : i.size ≤ 1000 := by omega
                  have hbL : (bodyF 1 true kd false 0 0 i true).size ≤ maxLen := by have := body_size 1 kd 0 0 true false i true; unfold maxLen; omega
                  have hvv : (v : Int) ≤ 129 := by omega
                  have hv129 : v ≤ 129 := hv
                  have hwr : IntKind.i64.wrap ((v : Int) - 1) = (v : Int) - 1 := IntWalk.i64_in _ (by omega)
                  have U0 : UAt w g l a wr.heap.size kd i (wr.alloc (.cells #[.int .u8 1, .bool true, .int .u8 (kd : Int), .bool false, .int .u8 0, .int .u8 0, .string i] 23)) := ⟨hT2.step ((Below.refl _ _).alloc (Nat.le_refl _) _), World.alloc_heap_new wr _, by simp⟩
                  clear hi hisz
                  go_upto_region 19 with (fail)
                  obtain ⟨gf, hgf⟩ : ∃ gf, wr.heap.size = gf := ⟨_, rfl⟩
                  rw [hgf] at U0 ⊢
                  generalize wr.alloc (.cells #[.int .u8 1, .bool true, .int .u8 (kd : Int), .bool false, .int .u8 0, .int .u8 0, .string i] 23) = w4 at *
                  clear hT2 hcv hgf
                  have hS : UAt w g l a gf kd i w4.drew := U0.step ((Below.refl _ _).drew)
                  refine wp_region_held (S := UAt w g l a gf kd i) (by kernel_rfl) ?_
                  change wpAnyH _ _ _ _ _ _ _ _ (World.drew _)
                  refine take_atH 0 91 hS rfl rfl (by kernel_rfl) (by kernel_rfl) (by kernel_rfl) (fun _ _ _ h => h) rfl (fun wq hq => by obtain ⟨q0, q1, q2, q3, q4, q5, q6, _⟩ := zero_cells hq.blk; go_simp; first | done | with_reducible rfl) ?_
                  simp only [Act.put, List.setIfInBounds_toArray, List.set_cons_zero, List.set_cons_succ]
                  refine lone_atH 1 rfl (by kernel_rfl) rfl (fun K hK => ?_)
                  go_simp
                  refine (basEncodes_any 1 kd 0 0 true false i _ _ _ (HO.out _ (hS).below) (HF.out _ (hS).below) (by omega) (by omega) (by omega) (by omega) hiL).mono ?_; rintro e wN1 ⟨rfl, bN1⟩
                  refine (fun hN1 => hK _ _ hN1 ?_) ((hS).step bN1); clear hK K
                  refine take_atH 2 93 hN1 rfl rfl (by kernel_rfl) (by kernel_rfl) (by kernel_rfl) (fun _ _ _ h => h) rfl (fun wq hq => by go_simp; first | done | with_reducible rfl) ?_
                  simp only [Act.put, List.setIfInBounds_toArray, List.set_cons_zero, List.set_cons_succ]
                  refine take_atH 3 94 hN1 rfl rfl (by kernel_rfl) (by kernel_rfl) (by kernel_rfl) (fun _ _ _ h => h) rfl (fun wq hq => by go_simp; first | done | with_reducible rfl) ?_
                  simp only [Act.put, List.setIfInBounds_toArray, List.set_cons_zero, List.set_cons_succ]
                  refine take_atH 4 95 hN1 rfl rfl (by kernel_rfl) (by kernel_rfl) (by kernel_rfl) (fun _ _ _ h => h) rfl (fun wq hq => by obtain ⟨q0, q1, q2, q3, q4, q5, q6, _⟩ := zero_cells hq.blk; go_simp; first | done | with_reducible rfl) ?_
                  simp only [Act.put, List.setIfInBounds_toArray, List.set_cons_zero, List.set_cons_succ]
                  refine take_atH 5 96 hN1 rfl rfl (by kernel_rfl) (by kernel_rfl) (by kernel_rfl) (fun _ _ _ h => h) rfl (fun wq hq => by go_simp; first | done | with_reducible rfl) ?_
                  simp only [Act.put, List.setIfInBounds_toArray, List.set_cons_zero, List.set_cons_succ]
                  refine take_atH 6 97 hN1 rfl rfl (by kernel_rfl) (by kernel_rfl) (by kernel_rfl) (fun _ _ _ h => h) rfl (fun wq hq => by go_simp; first | done | with_reducible rfl) ?_
                  simp only [Act.put, List.setIfInBounds_toArray, List.set_cons_zero, List.set_cons_succ]
                  refine lone_atH 7 rfl (by kernel_rfl) rfl (fun K hK => ?_)
                  go_simp
                  refine (basEncodes_any 1 kd 0 0 true false i _ _ _ (HO.out _ (hN1).below) (HF.out _ (hN1).below) (by omega) (by omega) (by omega) (by omega) hiL).mono ?_; rintro e wN2 ⟨rfl, bN2⟩
                  refine (fun hN2 => hK _ _ hN2 ?_) ((hN1).step bN2); clear hK K
                  refine take_atH 8 99 hN2 rfl rfl (by kernel_rfl) (by kernel_rfl) (by kernel_rfl) (fun _ _ _ h => h) rfl (fun wq hq => by go_simp; first | done | with_reducible rfl) ?_
                  simp only [Act.put, List.setIfInBounds_toArray, List.set_cons_zero, List.set_cons_succ]
                  refine take_atH 9 100 hN2 rfl rfl (by kernel_rfl) (by kernel_rfl) (by kernel_rfl) (fun _ _ _ h => h) rfl (fun wq hq => by go_simp; first | done | with_reducible rfl) ?_
                  simp only [Act.put, List.setIfInBounds_toArray, List.set_cons_zero, List.set_cons_succ]
                  refine take_atH 10 101 hN2 rfl rfl (by kernel_rfl) (by kernel_rfl) (by kernel_rfl) (fun _ _ _ h => h) rfl (fun wq hq => by go_simp; first | done | with_reducible rfl) ?_
                  simp only [Act.put, List.setIfInBounds_toArray, List.set_cons_zero, List.set_cons_succ]
                  refine take_atH 11 102 hN2 rfl rfl (by kernel_rfl) (by kernel_rfl) (by kernel_rfl) (fun _ _ _ h => h) rfl (fun wq hq => by obtain ⟨q0, q1, q2, q3, q4, q5, q6, _⟩ := zero_cells hq.blk; go_simp; first | done | with_reducible rfl) ?_
                  simp only [Act.put, List.setIfInBounds_toArray, List.set_cons_zero, List.set_cons_succ]
                  refine lone_atH 12 rfl (by kernel_rfl) rfl (fun K hK => ?_)
                  go_simp
                  refine (basEncodes_any 1 kd 0 0 true false i _ _ _ (HO.out _ (hN2).below) (HF.out _ (hN2).below) (by omega) (by omega) (by omega) (by omega) hiL).mono ?_; rintro e wN3 ⟨rfl, bN3⟩
                  refine (fun hN3 => hK _ _ hN3 ?_) ((hN2).step bN3); clear hK K
                  refine take_atH 13 104 hN3 rfl rfl (by kernel_rfl) (by kernel_rfl) (by kernel_rfl) (fun _ _ _ h => h) rfl (fun wq hq => by go_simp; first | done | with_reducible rfl) ?_
                  simp only [Act.put, List.setIfInBounds_toArray, List.set_cons_zero, List.set_cons_succ]
                  refine take_atH 14 105 hN3 rfl rfl (by kernel_rfl) (by kernel_rfl) (by kernel_rfl) (fun _ _ _ h => h) rfl (fun wq hq => by go_simp; first | done | with_reducible rfl) ?_
                  simp only [Act.put, List.setIfInBounds_toArray, List.set_cons_zero, List.set_cons_succ]
                  refine take_atH 15 106 hN3 rfl rfl (by kernel_rfl) (by kernel_rfl) (by kernel_rfl) (fun _ _ _ h => h) rfl (fun wq hq => by go_simp; first | done | with_reducible rfl) ?_
                  simp only [Act.put, List.setIfInBounds_toArray, List.set_cons_zero, List.set_cons_succ]
                  refine take_atH 16 107 hN3 rfl rfl (by kernel_rfl) (by kernel_rfl) (by kernel_rfl) (fun _ _ _ h => h) rfl (fun wq hq => by obtain ⟨q0, q1, q2, q3, q4, q5, q6, _⟩ := zero_cells hq.blk; go_simp; first | done | with_reducible rfl) ?_
                  simp only [Act.put, List.setIfInBounds_toArray, List.set_cons_zero, List.set_cons_succ]
                  refine lone_atH 17 rfl (by kernel_rfl) rfl (fun K hK => ?_)
                  go_simp
                  refine (basEncodes_any 1 kd 0 0 true false i _ _ _ (HO.out _ (hN3).below) (HF.out _ (hN3).below) (by omega) (by omega) (by omega) (by omega) hiL).mono ?_; rintro e wN4 ⟨rfl, bN4⟩
                  refine (fun hN4 => hK _ _ hN4 ?_) ((hN3).step bN4); clear hK K
                  refine take_atH 18 109 hN4 rfl rfl (by kernel_rfl) (by kernel_rfl) (by kernel_rfl) (fun _ _ _ h => h) rfl (fun wq hq => by go_simp; first | done | with_reducible rfl) ?_
                  simp only [Act.put, List.setIfInBounds_toArray, List.set_cons_zero, List.set_cons_succ]
                  refine take_atH 19 110 hN4 rfl rfl (by kernel_rfl) (by kernel_rfl) (by kernel_rfl) (fun _ _ _ h => h) rfl (fun wq hq => by go_simp; first | done | with_reducible rfl) ?_
                  simp only [Act.put, List.setIfInBounds_toArray, List.set_cons_zero, List.set_cons_succ]
                  refine take_atH 20 111 hN4 rfl rfl (by kernel_rfl) (by kernel_rfl) (by kernel_rfl) (fun _ _ _ h => h) rfl (fun wq hq => by go_simp; first | done | with_reducible rfl) ?_
                  simp only [Act.put, List.setIfInBounds_toArray, List.set_cons_zero, List.set_cons_succ]
                  refine take_atH 21 112 hN4 rfl rfl (by kernel_rfl) (by kernel_rfl) (by kernel_rfl) (fun _ _ _ h => h) rfl (fun wq hq => by obtain ⟨q0, q1, q2, q3, q4, q5, q6, _⟩ := zero_cells hq.blk; go_simp; first | done | with_reducible rfl) ?_
                  simp only [Act.put, List.setIfInBounds_toArray, List.set_cons_zero, List.set_cons_succ]
                  refine take_atH 22 113 hN4 rfl rfl (by kernel_rfl) (by kernel_rfl) (by kernel_rfl) (fun _ _ _ h => h) rfl (fun wq hq => by obtain ⟨q0, q1, q2, q3, q4, q5, q6, _⟩ := zero_cells hq.blk; go_simp; first | done | with_reducible rfl) ?_
                  simp only [Act.put, List.setIfInBounds_toArray, List.set_cons_zero, List.set_cons_succ]
                  refine take_atH 24 115 hN4 rfl rfl (by kernel_rfl) (by kernel_rfl) (by kernel_rfl) (fun _ _ _ h => h) rfl (fun wq hq => by go_simp; first | done | with_reducible rfl) ?_
                  simp only [Act.put, List.setIfInBounds_toArray, List.set_cons_zero, List.set_cons_succ]
                  refine lone_atH 23 rfl (by kernel_rfl) rfl (fun K hK => ?_)
                  go_simp
                  refine (rbody_any 1 kd 0 0 true false i true _ (by omega) (by omega) (by omega) (by omega) hiM hpk).mono ?_; rintro e wN5 ⟨rfl, bN5⟩
                  refine (fun hN5 => hK _ _ hN5 ?_) ((hN4).step bN5); clear hK K
                  refine lone_atH 25 rfl (by kernel_rfl) rfl (fun K hK => ?_)
                  go_simp
                  refine (basBack_any 1 kd 0 0 true false i _ _ _ _ (HO.out _ (hN5).below) (HF.out _ (hN5).below) (by omega) (by omega) (by omega) (by omega) hiL hbL).mono ?_; rintro e wN6 ⟨rfl, bN6⟩
                  refine (fun hN6 => hK _ _ hN6 ?_) ((hN5).step bN6); clear hK K
                  refine take_atH 26 117 hN6 rfl rfl (by kernel_rfl) (by kernel_rfl) (by kernel_rfl) (fun _ _ _ h => h) rfl (fun wq hq => by go_simp; first | done | with_reducible rfl) ?_
                  simp only [Act.put, List.setIfInBounds_toArray, List.set_cons_zero, List.set_cons_succ]
                  refine take_atH 27 118 hN6 rfl rfl (by kernel_rfl) (by kernel_rfl) (by kernel_rfl) (fun _ _ _ h => h) rfl (fun wq hq => by go_simp; first | done | with_reducible rfl) ?_
                  simp only [Act.put, List.setIfInBounds_toArray, List.set_cons_zero, List.set_cons_succ]
                  refine take_atH 28 119 hN6 rfl rfl (by kernel_rfl) (by kernel_rfl) (by kernel_rfl) (fun _ _ _ h => h) rfl (fun wq hq => by go_simp; first | done | with_reducible rfl) ?_
                  simp only [Act.put, List.setIfInBounds_toArray, List.set_cons_zero, List.set_cons_succ]
                  refine take_atH 29 120 hN6 rfl rfl (by kernel_rfl) (by kernel_rfl) (by kernel_rfl) (fun _ _ _ h => h) rfl (fun wq hq => by obtain ⟨q0, q1, q2, q3, q4, q5, q6, _⟩ := zero_cells hq.blk; go_simp; first | done | with_reducible rfl) ?_
                  simp only [Act.put, List.setIfInBounds_toArray, List.set_cons_zero, List.set_cons_succ]
                  refine take_atH 31 122 hN6 rfl rfl (by kernel_rfl) (by kernel_rfl) (by kernel_rfl) (fun _ _ _ h => h) rfl (fun wq hq => by go_simp; first | done | with_reducible rfl) ?_
                  simp only [Act.put, List.setIfInBounds_toArray, List.set_cons_zero, List.set_cons_succ]
                  refine take_atH 32 123 hN6 rfl rfl (by kernel_rfl) (by kernel_rfl) (by kernel_rfl) (fun _ _ _ h => h) rfl (fun wq hq => by go_simp; first | done | with_reducible rfl) ?_
                  simp only [Act.put, List.setIfInBounds_toArray, List.set_cons_zero, List.set_cons_succ]
                  refine lone_atH 30 rfl (by kernel_rfl) rfl (fun K hK => ?_)
                  go_simp
                  refine (rbody_any 1 kd 0 0 true false i true _ (by omega) (by omega) (by omega) (by omega) hiM hpk).mono ?_; rintro e wN7 ⟨rfl, bN7⟩
                  refine (fun hN7 => hK _ _ hN7 ?_) ((hN6).step bN7); clear hK K
                  refine lone_atH 33 rfl (by kernel_rfl) rfl (fun K hK => ?_)
                  go_simp
                  refine (basDecodes_any _ _ _ _ (HO.out _ (hN7).below) (HF.out _ (hN7).below) hbL).mono ?_; rintro e wN8 ⟨rfl, bN8⟩
                  refine (fun hN8 => hK _ _ hN8 ?_) ((hN7).step bN8); clear hK K
                  refine take_atH 34 125 hN8 rfl rfl (by kernel_rfl) (by kernel_rfl) (by kernel_rfl) (fun _ _ _ h => h) rfl (fun wq hq => by go_simp; first | done | with_reducible rfl) ?_
                  simp only [Act.put, List.setIfInBounds_toArray, List.set_cons_zero, List.set_cons_succ]
                  refine take_atH 35 126 hN8 rfl rfl (by kernel_rfl) (by kernel_rfl) (by kernel_rfl) (fun _ _ _ h => h) rfl (fun wq hq => by go_simp; first | done | with_reducible rfl) ?_
                  simp only [Act.put, List.setIfInBounds_toArray, List.set_cons_zero, List.set_cons_succ]
                  refine wpAnyH_done (by kernel_rfl) ?_ _
                  go_wp2
                  go_roundw
                  case rel => exact ⟨kd + 1, by omega, by omega, by go_num, (hN8).tat⟩
                  case measure => simp [intOf]; omega
                · have e5 : ¬ (kd : Int) < 8 := by omega
                  go_wp2
                  go_roundw
                  case rel => exact ⟨j + 1, hjl, by go_num, hT2⟩
                  case measure => simp [intOf]; omega
            · have hj9 : ¬ (j : Int) < 6 := by omega
              have B3 := hT.sat.below
              have hbz : (bodyF 5 true 7 false 3 1 ⟨#[97, 98]⟩ true).size ≤ 7 := body_size 5 7 3 1 true false ⟨#[97, 98]⟩ true
              have hpk : putOk 7 3 1 = true := rfl
              have HBODY := hide (fun W => rbody_any 5 7 3 1 true false ⟨#[97, 98]⟩ true W (by omega) (by omega) (by omega) (by omega) (by decide) hpk)
              clear hjl hj hT
              generalize bodyF 5 true 7 false 3 1 ⟨#[97, 98]⟩ true = X at *
              go_wp2_with fail
              refine (HBODY.out _).mono ?_
              rintro e w4 ⟨rfl, hb4⟩
              have B4 := below_step B3 (Nat.le_refl _) hb4
              clear hb4 B3 HBODY
              go_wp2
              go_loopw [10] (fun i wr => ∃ j : Nat, j ≤ X.size ∧ i = .int .i64 (j : Int) ∧ Below w.heap.size w wr) (fun i _ => X.size - (intOf i).toNat)
              case atStart => exact ⟨0, by omega, rfl, B4⟩
              case round =>
                obtain ⟨j, hj, rfl, hB5⟩ := hrel
                clear B4
                by_cases hjl : j < X.size
                · have e4 : (j : Int) < (X.size : Int) := by omega
                  have da : decide ((j : Int) < (X.size : Int)) = true := decide_eq_true e4
                  have V0 : VAt w (wr.alloc bysO) wr.heap.size := ⟨hB5.alloc hB5.size _, bys_cell wr, by simp⟩
                  unfold bysO at V0
                  go_wp2
                  generalize wr.alloc (.cells #[.int .u8 1, .int .u8 2, .int .u8 16, .int .u8 128, .int .u8 255] 5) = w5 at *
                  obtain ⟨ab, hab⟩ : ∃ ab, wr.heap.size = ab := ⟨_, rfl⟩
                  rw [hab] at V0 ⊢
                  clear hB5 hab
                  go_loopw [138] (fun i wr => ∃ q : Nat, q ≤ 5 ∧ i = .int .i64 (q : Int) ∧ VAt w wr ab) (fun i _ => 5 - (intOf i).toNat)
                  case atStart => exact ⟨0, by omega, rfl, V0⟩
                  case round =>
                    obtain ⟨q, hq, rfl, hV⟩ := hrel
                    clear V0
                    by_cases hql : q < 5
                    · have q9 := hV.cells q hql
                      have hby := bys_le q hql
                      have e5 : (q : Int) < 5 := by omega
                      generalize bys.getD q 0 = m at *
                      obtain ⟨wo, rfl⟩ : ∃ wo : World, wo = wr := ⟨_, rfl⟩
                      go_wp2_with (with_reducible refine wpList_to_bytes (o := ⟨some 143, _, _, _, _, _⟩) _ rfl _ 9 34 5 rfl Tryd.underlying9 Tryd.underlying34 Tryd.underlying5 X rfl ?_)
                      intro cap w6 hcap hsz6 hbel hcells
                      have R6 := rowB_of hcells
                      have hV6 := hV.step hbel
                      have hgo : w.heap.size ≤ wo.heap.size := hV.below.size
                      obtain ⟨gx, hgx⟩ : ∃ gx, wo.heap.size = gx := ⟨_, rfl⟩
                      rw [hgx] at R6 hgo hsz6 ⊢
                      have hjn : j < (bl X).length := by rw [bl_length]; exact hjl
                      obtain ⟨r1, r2⟩ := R6 j hjn
                      have o1 := bytes_getD (bl_bytes X) j
                      generalize (bl X).getD j 0 = old at *
                      have hx1' : bits .xor .u8 (old : Int) (m : Int) = ((old ^^^ m : Nat) : Int) := u8_xor_nat old m o1 (by omega)
                      have hn1 : old ^^^ m < 256 := xor_lt o1 (by omega)
                      generalize old ^^^ m = now at *
                      have hne9 : ab ≠ gx := by have := hV.lta; omega
                      have R7 := R6.set hjn now
                      have V7 : VAt w (w6.setCell ⟨gx, j, none⟩ (.int .u8 (now : Int))) ab := ⟨hV6.below.setCell (p := ⟨gx, j, none⟩) hgo _, fun q hq => by rw [World.cell?_setCell_other _ _ _ _ (by first | (simp; done) | (simp; omega))]; exact hV6.cells q hq, by simpa using hV6.lta⟩
                      have hgx7 : gx < (w6.setCell ⟨gx, j, none⟩ (.int .u8 (now : Int))).heap.size := by rw [World.size_setCell]; omega
                      have hLB := bytes_set (bl_bytes X) j now hn1
                      have hLn : ((bl X).set j now).length = X.size := by rw [List.length_set, bl_length]
                      go_upto_region 31 with (fail)
                      generalize w6.setCell ⟨gx, j, none⟩ (.int .u8 (now : Int)) = w7 at *
                      clear R6 hV6 hV hbel hcells r1 r2 hx1' hjn hsz6 hgx q9
                      have HLN := hide hLn
                      generalize (bl X).set j now = L at *
                      have hLz : (st L).size ≤ maxLen := by rw [st_size, hLn]; unfold maxLen; omega
                      have hLz2 : (st (L.take j)).size ≤ maxLen := by rw [st_size, List.length_take]; unfold maxLen; omega
                      have hcv := R7.run (n := X.size) (c := cap) hLn
                      clear hLn
                      go_wp2_with fail
                      refine (basDecodes_any (st L) true 5 _ (HO.out _ V7.below) (HF.out _ V7.below) hLz).mono ?_
                      rintro e w8 ⟨rfl, hb8⟩
                      have V8 := V7.step hb8
                      have R8 := R7.below hgx7 hb8
                      have hgx8 := Nat.lt_of_lt_of_le hgx7 hb8.size
                      clear V7 R7 hgx7 hb8 hcv
                      have hcv := R8.front (n := j) (c := cap) (by rw [HLN.out]; omega)
                      have hjc : (j : Int) ≤ (cap : Int) := by omega
                      go_wp2_with fail
                      refine (basDecodes_any (st (L.take j)) false 5 _ (HO.out _ V8.below) (HF.out _ V8.below) hLz2).mono ?_
                      rintro e w9 ⟨rfl, hb9⟩
                      have V9 := V8.step hb9
                      have R9 := R8.below hgx8 hb9
                      have hgx9 := Nat.lt_of_lt_of_le hgx8 hb9.size
                      clear V8 R8 hgx8 hb9 hcv
                      have hcv := R9.run (n := X.size) (c := cap) HLN.out
                      go_wp2_with fail
                      refine (basBack_any 0 0 0 0 false false ⟨#[]⟩ (st L) true 5 _ (HO.out _ V9.below) (HF.out _ V9.below) (by omega) (by omega) (by omega) (by omega) (by decide) hLz).mono ?_
                      rintro e w10 ⟨rfl, hb10⟩
                      have V10 := V9.step hb10
                      clear V9 R9 hgx9 hb10 hcv
                      go_wp2
                      go_roundw
                      case rel => exact ⟨q + 1, hql, by go_num, V10⟩
                      case measure => simp [intOf]; omega
                    · have e5 : ¬ (q : Int) < 5 := by omega
                      go_wp2
                      go_roundw
                      case rel => exact ⟨j + 1, hjl, by go_num, hV.below⟩
                      case measure => simp [intOf]; omega
                · have e4 : ¬ (j : Int) < (X.size : Int) := by omega
                  clear hjl hj
                  go_wp2_with fail
                  refine (basEncodes_any 62 1 0 0 true false ⟨#[]⟩ false 1 _ (HO.out _ hB5) (HF.out _ hB5) (by omega) (by omega) (by omega) (by omega) (by decide)).mono ?_
                  rintro e w5 ⟨rfl, hb5⟩
                  have B6 := below_step hB5 (Nat.le_refl _) hb5
                  clear hb5 hB5
                  go_wp2_with fail
                  refine (basDecodes_any ⟨#[249, 63, 1, 0]⟩ false 1 _ (HO.out _ B6) (HF.out _ B6) (by decide)).mono ?_
                  rintro e w6 ⟨rfl, hb6⟩
                  have B7 := below_step B6 (Nat.le_refl _) hb6
                  clear hb6 B6
                  go_wp2_with fail
                  refine (basDecodes_any ⟨#[3, 239, 2, 0, 0]⟩ true 5 _ (HO.out _ B7) (HF.out _ B7) (by decide)).mono ?_
                  rintro e w7 ⟨rfl, hb7⟩
                  have B8 := below_step B7 (Nat.le_refl _) hb7
                  clear hb7 B7
                  go_wp2_with fail
                  refine (basDecodes_any ⟨#[]⟩ true 5 _ (HO.out _ B8) (HF.out _ B8) (by decide)).mono ?_
                  rintro e w8 ⟨rfl, hb8⟩
                  have B9 := below_step B8 (Nat.le_refl _) hb8
                  clear hb8 B8
                  go_wp2_with fail
                  refine (works_any _ (HO.out _ B9) (HF.out _ B9)).mono ?_
                  rintro e w9 ⟨rfl, hb9⟩
                  have B10 := below_step B9 (Nat.le_refl _) hb9
                  clear hb9 B9
                  go_wp2
                  go_ret
                  exact ⟨rfl, B10⟩
end Go.Proofs.YtfggjmdjcjhjfaaDoor
