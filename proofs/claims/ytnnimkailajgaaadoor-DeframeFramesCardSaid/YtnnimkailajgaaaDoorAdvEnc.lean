/- advanced.Encode and the reference's Encode: the walks. -/
import Derived.Test.YtnnimkailajgaaaDoorRegion
namespace Go.Proofs.YtnnimkailajgaaaDoor
open Go.RowKit
set_option linter.unusedVariables false
set_option linter.unusedSimpArgs false

/-- A frame's octets, but for its check; and with its check, written. -/
def octF (d : Nat) (c : Bool) (k : Nat) (p : Bool) (s r : Nat) (i : ByteArray) (b : Bool) : ByteArray := st [eaA d (c == b), putN k p s r] ++ i
def encL (k : Nat) (o : ByteArray) : List Nat := 126 :: (stuff (bl o ++ [fsum (bl (cov k o))]) ++ [126])
def encR (d : Nat) (c : Bool) (k : Nat) (p : Bool) (s r : Nat) (i : ByteArray) (b : Bool) (n1 : Int) : Ending :=
  if mayOk d c k s r i = false then .returned (.tuple #[.string ⟨#[]⟩, .int .i64 2]) else if room n1 < (i.size : Int) then .returned (.tuple #[.string ⟨#[]⟩, .int .i64 3])
  else .returned (.tuple #[.string (st (encL k (octF d c k p s r i b))), .int .i64 0])

theorem own_lit8 (w : World) (l : List Nat) (B : Nat) (hB : B ≤ w.heap.size) (hl : l.length ≤ 1000000 := by decide) :
    (w.alloc (.cells (u8s l).toArray 5)).ownsRow B 5 1 (.slice (some ⟨w.heap.size, 0, none⟩) l.length l.length) l.length (u8s l) := by
  have := World.ownsRow_lit (e := 5) (size := 1) w (u8s l).toArray l.length hB (by unfold maxLen; omega) (by simp [u8s])
  simpa using this
theorem run_st (b n cap : Nat) (l : List Nat) (W : World) (hn : l.length = n) (hc : ∀ i, i < n → W.cell? ⟨b, 0 + i, none⟩ = some (.int .u8 (l.getD i 0 : Nat))) :
    (convert 42 9 (.slice (some ⟨b, 0, none⟩) n cap)).run Tryd.prog W = .ok (.string (st l)) W := by
  rw [run_convert_bytes_arg W 42 5 Tryd.underlying42 Tryd.underlying5 b 0 n cap (l.map fun (x : Nat) => (x : Int)) (by simp [hn]) (fun i hi => ?_) 9 Tryd.underlying9]
  · congr 2
    apply ByteArray.ext
    simp [strOfNums, st]
  · rw [hc i hi]
    have : i < l.length := by omega
    simp [this]
theorem run_two (W : World) (x y : Nat) : (convert 42 9 (.slice (some ⟨W.heap.size, 0, none⟩) 2 2)).run Tryd.prog (W.alloc (.cells #[.int .u8 (x : Int), .int .u8 (y : Int)] 5)).drew = .ok (.string (st [x, y])) (W.alloc (.cells #[.int .u8 (x : Int), .int .u8 (y : Int)] 5)).drew := by
  refine run_st W.heap.size 2 2 [x, y] _ rfl fun i hi => ?_
  rw [Nat.zero_add]
  refine (World.cell?_alloc_new W #[.int .u8 (x : Int), .int .u8 (y : Int)] 5 i).trans ?_
  rcases (show i = 0 ∨ i = 1 by omega) with rfl | rfl <;> rfl

/-- A frame in a block. -/
structure FrAt (w : World) (g : Nat) (d : Nat) (c : Bool) (k : Nat) (p : Bool) (s r : Nat) (i : ByteArray) : Prop where
  lt : g < w.heap.size
  c0 : w.cell? ⟨g, 0, none⟩ = some (.int .u8 (d : Int))
  c1 : w.cell? ⟨g, 1, none⟩ = some (.bool c)
  c2 : w.cell? ⟨g, 2, none⟩ = some (.int .u8 (k : Int))
  c3 : w.cell? ⟨g, 3, none⟩ = some (.bool p)
  c4 : w.cell? ⟨g, 4, none⟩ = some (.int .u8 (s : Int))
  c5 : w.cell? ⟨g, 5, none⟩ = some (.int .u8 (r : Int))
  c6 : w.cell? ⟨g, 6, none⟩ = some (.string i)
theorem FrAt.keep {w w' : World} {g d k s r : Nat} {c p : Bool} {i : ByteArray} (h : FrAt w g d c k p s r i) (hs : w.heap.size ≤ w'.heap.size) (hb : w'.heap[g]? = w.heap[g]?) : FrAt w' g d c k p s r i :=
  ⟨Nat.lt_of_lt_of_le h.lt hs, (World.cell?_of_block (a := ⟨g, 0, none⟩) hb).trans h.c0, (World.cell?_of_block (a := ⟨g, 1, none⟩) hb).trans h.c1, (World.cell?_of_block (a := ⟨g, 2, none⟩) hb).trans h.c2, (World.cell?_of_block (a := ⟨g, 3, none⟩) hb).trans h.c3,
    (World.cell?_of_block (a := ⟨g, 4, none⟩) hb).trans h.c4, (World.cell?_of_block (a := ⟨g, 5, none⟩) hb).trans h.c5, (World.cell?_of_block (a := ⟨g, 6, none⟩) hb).trans h.c6⟩
theorem FrAt.below {w w' : World} {g d k s r : Nat} {c p : Bool} {i : ByteArray} (h : FrAt w g d c k p s r i) (hb : Below w.heap.size w w') : FrAt w' g d c k p s r i := h.keep hb.size (hb.block g h.lt)
theorem FrAt.drewN {w : World} {g d k s r : Nat} {c p : Bool} {i : ByteArray} (h : FrAt w g d c k p s r i) (n : Nat) : FrAt (w.drewN n) g d c k p s r i := ⟨h.lt, h.c0, h.c1, h.c2, h.c3, h.c4, h.c5, h.c6⟩
theorem FrAt.alloc {w : World} {g d k s r : Nat} {c p : Bool} {i : ByteArray} (h : FrAt w g d c k p s r i) (o : Obj) : FrAt (w.alloc o) g d c k p s r i := h.below ((Below.refl _ _).alloc (Nat.le_refl _) o)
theorem frAt_new (w : World) (d : Nat) (c : Bool) (k : Nat) (p : Bool) (s r : Nat) (i : ByteArray) (t : TypeId) :
    FrAt (w.alloc (.cells #[.int .u8 (d : Int), .bool c, .int .u8 (k : Int), .bool p, .int .u8 (s : Int), .int .u8 (r : Int), .string i] t)) w.heap.size d c k p s r i :=
  ⟨by simp, World.cell?_alloc_new _ _ _ _, World.cell?_alloc_new _ _ _ _, World.cell?_alloc_new _ _ _ _, World.cell?_alloc_new _ _ _ _, World.cell?_alloc_new _ _ _ _, World.cell?_alloc_new _ _ _ _, World.cell?_alloc_new _ _ _ _⟩

set_option maxRecDepth 100000 in
set_option maxHeartbeats 4000000 in
theorem encode_any (d k s r : Nat) (c p : Bool) (i : ByteArray) (b : Bool) (n1 : Int) (w : World) (hh : Octs w) (hf : Half w) (h0 : d ≤ 255) (h1 : k ≤ 255) (h2 : s ≤ 255) (h3 : r ≤ 255) (hi : i.size ≤ maxLen) :
    Calls Tryd.prog 16 #[.agg #[.int .u8 (d : Int), .bool c, .int .u8 (k : Int), .bool p, .int .u8 (s : Int), .int .u8 (r : Int), .string i], .bool b, .int .i64 n1] w fun e w' => e = encR d c k p s r i b n1 ∧ Below w.heap.size w w' := by
  unfold maxLen at hi
  have HO := hide (fun W (hb : Below w.heap.size w W) => hh.below hb)
  have HF := hide (fun W (hb : Below w.heap.size w W) => hf.below hb)
  clear hh hf
  have B0 := (Below.refl w.heap.size w).alloc (Nat.le_refl _) (.cells #[.int .u8 (d : Int), .bool c, .int .u8 (k : Int), .bool p, .int .u8 (s : Int), .int .u8 (r : Int), .string i] 30)
  have F0 := frAt_new w d c k p s r i 30
  have hm9 : putV k p s r ≤ 255 := by unfold putV; split; exact putN_lt p (by assumption); omega
  by_cases hm : mayOk d c k s r i = false
  · have hR : encR d c k p s r i b n1 = .returned (.tuple #[.string ⟨#[]⟩, .int .i64 2]) := by unfold encR; rw [if_pos hm]
    rw [hR]
    have HM := hide hm
    clear hR hm
    go_enter Tryd.func16, Tryd.ntmps16
    go_wp2_with fail
    refine (may_any d k s r c p i _ (HO.out _ B0) h0 h1 h2 h3).mono ?_
    rintro e w2 ⟨rfl, hb2⟩
    rw [HM.out]
    have B2 := below_step B0 (Nat.le_refl _) hb2
    clear hb2 B0 F0
    go_wp2
    go_ret2
    exact ⟨rfl, B2⟩
  · have hm1 : mayOk d c k s r i = true := by simpa using hm
    have hpk : putOk k s r = true := by unfold mayOk at hm1; simp at hm1; exact hm1.1.1.1
    have hpv : putV k p s r = putN k p s r := by unfold putV; rw [hpk]; rfl
    rw [hpv] at hm9
    have HM := hide hm1
    have HV := hide hpv
    by_cases hr : room n1 < (i.size : Int)
    · have hR : encR d c k p s r i b n1 = .returned (.tuple #[.string ⟨#[]⟩, .int .i64 3]) := by unfold encR; rw [if_neg hm, if_pos hr]
      rw [hR]
      clear hR hm hm1 hpk hpv
      go_enter Tryd.func16, Tryd.ntmps16
      go_wp2_with fail
      refine (may_any d k s r c p i _ (HO.out _ B0) h0 h1 h2 h3).mono ?_
      rintro e w2 ⟨rfl, hb2⟩
      rw [HM.out, HV.out]
      have B2 := below_step B0 (Nat.le_refl _) hb2
      have F2 := F0.below hb2
      clear hb2 B0 F0
      have c6 := F2.c6
      go_wp2
      go_quiet ((go_at_call 26; exact Calls.quiet_of_same (same_of (room_any _ _))))
      go_wp2
      go_ret2
      exact ⟨rfl, below_drewN B2 _⟩
    · have hR : encR d c k p s r i b n1 = .returned (.tuple #[.string (st (encL k (octF d c k p s r i b))), .int .i64 0]) := by unfold encR; rw [if_neg hm, if_neg hr]
      rw [hR]
      clear hR hm hm1 hpk hpv
      have hi2 : i.size ≤ 128 := by unfold room at hr; omega
      go_enter Tryd.func16, Tryd.ntmps16
      go_wp2_with fail
      refine (may_any d k s r c p i _ (HO.out _ B0) h0 h1 h2 h3).mono ?_
      rintro e w2 ⟨rfl, hb2⟩
      rw [HM.out, HV.out]
      have B2 := below_step B0 (Nat.le_refl _) hb2
      have F2 := F0.below hb2
      clear hb2 B0 F0
      have c6 := F2.c6
      go_wp2
      go_quiet ((go_at_call 26; exact Calls.quiet_of_same (same_of (room_any _ _))))
      have F3 := F2.drewN nq
      have B3 := below_drewN B2 nq
      go_upto_region 6 with (fail)
      generalize w2.drewN nq = w3 at *
      clear F2 B2 c6
      have ha := eaA_le d (c == b)
      obtain ⟨X, hX⟩ : ∃ X, octF d c k p s r i b = X := ⟨_, rfl⟩
      have HX := hide hX
      clear hX
      go_cut [10] (fun s10 wx => s10 = .string X ∧ FrAt wx w.heap.size d c k p s r i ∧ Below w.heap.size w wx)
      case first =>
        have hS : FrAt w3.drew w.heap.size d c k p s r i := F3.drewN 1
        have hS2 := (F3.alloc (.cells #[.int .u8 (eaA d (c == b) : Nat), .int .u8 (putN k p s r : Nat)] 5)).drewN 1
        have hcat : ¬ 9223372036854775807 < (st [eaA d (c == b), putN k p s r]).size + i.size := by rw [st_size]; simp only [List.length_cons, List.length_nil]; omega
        have hcv := run_two w3 (eaA d (c == b)) (putN k p s r)
        refine wp_region_held (S := fun W => FrAt W w.heap.size d c k p s r i) (by kernel_rfl) ?_
        change wpAnyH _ _ _ _ _ _ _ _ (World.drew _)
        refine take_atH 0 27 hS rfl rfl (by kernel_rfl) (by kernel_rfl) (by kernel_rfl) (fun _ _ _ h => h) rfl (fun wq hq => by go_simp; first | done | with_reducible rfl) ?_
        simp only [Act.put, List.setIfInBounds_toArray, List.set_cons_zero, List.set_cons_succ]
        refine take_atH 1 28 hS rfl rfl (by kernel_rfl) (by kernel_rfl) (by kernel_rfl) (fun _ _ _ h => h) rfl (fun wq hq => by obtain ⟨_, q0, q1, _, _, _, _, q6⟩ := hq; go_simp; first | done | with_reducible rfl) ?_
        simp only [Act.put, List.setIfInBounds_toArray, List.set_cons_zero, List.set_cons_succ]
        refine take_atH 2 29 hS rfl rfl (by kernel_rfl) (by kernel_rfl) (by kernel_rfl) (fun _ _ _ h => h) rfl (fun wq hq => by go_simp; first | done | with_reducible rfl) ?_
        simp only [Act.put, List.setIfInBounds_toArray, List.set_cons_zero, List.set_cons_succ]
        refine take_atH 3 30 hS rfl rfl (by kernel_rfl) (by kernel_rfl) (by kernel_rfl) (fun _ _ _ h => h) rfl (fun wq hq => by obtain ⟨_, q0, q1, _, _, _, _, q6⟩ := hq; go_simp; first | done | with_reducible rfl) ?_
        simp only [Act.put, List.setIfInBounds_toArray, List.set_cons_zero, List.set_cons_succ]
        refine take_atH 4 31 hS rfl rfl (by kernel_rfl) (by kernel_rfl) (by kernel_rfl) (fun _ _ _ h => h) rfl (fun wq hq => by go_simp; first | done | with_reducible rfl) ?_
        simp only [Act.put, List.setIfInBounds_toArray, List.set_cons_zero, List.set_cons_succ]
        refine take_atH 5 32 hS rfl rfl (by kernel_rfl) (by kernel_rfl) (by kernel_rfl) (fun _ _ _ h => h) rfl (fun wq hq => by go_simp; first | done | with_reducible rfl) ?_
        simp only [Act.put, List.setIfInBounds_toArray, List.set_cons_zero, List.set_cons_succ]
        refine take_atH 7 34 hS rfl rfl (by kernel_rfl) (by kernel_rfl) (by kernel_rfl) (fun _ _ _ h => h) rfl (fun wq hq => by go_simp; first | done | with_reducible rfl) ?_
        simp only [Act.put, List.setIfInBounds_toArray, List.set_cons_zero, List.set_cons_succ]
        refine take_atH 10 37 hS rfl rfl (by kernel_rfl) (by kernel_rfl) (by kernel_rfl) (fun _ _ _ h => h) rfl (fun wq hq => by go_simp; first | done | with_reducible rfl) ?_
        simp only [Act.put, List.setIfInBounds_toArray, List.set_cons_zero, List.set_cons_succ]
        refine take_atH 11 38 hS rfl rfl (by kernel_rfl) (by kernel_rfl) (by kernel_rfl) (fun _ _ _ h => h) rfl (fun wq hq => by obtain ⟨_, q0, q1, _, _, _, _, q6⟩ := hq; go_simp; first | done | with_reducible rfl) ?_
        simp only [Act.put, List.setIfInBounds_toArray, List.set_cons_zero, List.set_cons_succ]
        refine lone_atH 6 rfl (by kernel_rfl) rfl (fun K hK => ?_)
        go_simp
        refine (address_any _ _ _ h0).mono ?_; rintro e w' ⟨rfl, rfl⟩
        refine hK _ _ hS ?_; clear hK K
        refine lone_atH 8 rfl (by kernel_rfl) rfl (fun K hK => ?_)
        go_simp
        refine hK _ _ hS2 ?_; clear hK K
        refine lone_atH 9 rfl (by kernel_rfl) rfl (fun K hK => ?_)
        go_simp
        refine hK _ _ hS2 ?_; clear hK K
        refine take_atH 12 39 hS2 rfl rfl (by kernel_rfl) (by kernel_rfl) (by kernel_rfl) (fun _ _ _ h => h) rfl (fun wq hq => by go_simp; first | done | with_reducible rfl) ?_
        simp only [Act.put, List.setIfInBounds_toArray, List.set_cons_zero, List.set_cons_succ]
        refine take_atH 13 10 hS2 rfl rfl (by kernel_rfl) (by kernel_rfl) (by kernel_rfl) (fun _ _ _ h => h) rfl (fun wq hq => by go_simp; first | done | with_reducible rfl) ?_
        simp only [Act.put, List.setIfInBounds_toArray, List.set_cons_zero, List.set_cons_succ]
        refine wpAnyH_done (by kernel_rfl) ?_ _
        go_wp2
        go_meet
        exact ⟨by rw [← HX.out]; rfl, hS2, (B3.alloc B3.size _).drew⟩
      case rest =>
        obtain ⟨rfl, F4, B4⟩ := hcut
        have hXs : X.size = 2 + i.size := by rw [← HX.out]; unfold octF; rw [ByteArray.size_append, st_size]; rfl
        have hx2 : 2 ≤ X.size := by omega
        have hx3 : X.size ≤ 130 := by omega
        clear hXs F3 B3 HM HV
        have r0 : (wc.alloc (.cells #[.int .u8 126] 5)).ownsRow wc.heap.size 5 1 (.slice (some ⟨wc.heap.size, 0, none⟩) 1 1) 1 (u8s [126]) := own_lit8 wc [126] wc.heap.size (Nat.le_refl _)
        go_wp2_with (refine wpList_to_bytes _ rfl (.tmp 41) 9 42 5 rfl Tryd.underlying9 Tryd.underlying42 Tryd.underlying5 X rfl ?_; intro cap w5 g1 g2 g3 g4)
        have B4s := B4.size
        have hsz5 : w5.heap.size = wc.heap.size + 2 := by rw [g2]; simp
        have r5 := own8_below r0 g3
        have B5 : Below wc.heap.size wc w5 := ((Below.refl _ _).alloc (Nat.le_refl _) _).trans (g3.mono (by simp))
        refine (put_some wc.heap.size 1 X.size cap 1 (some ⟨wc.heap.size, 0, none⟩) [126] (wc.heap.size + 1) 0 (bl X) w5 r5 (by omega) (bl_length X) (bl_bytes X) (by omega) (fun j hj => ?_) (by simp [Value.ownBlock]) (by omega)).mono ?_
        · rw [bl_length] at hj
          have := (g4 j hj).1
          rw [World.size_alloc] at this
          rw [Nat.zero_add, this, bl_getD X j hj]
        rintro e w6 ⟨v6, rfl, r6, b6⟩
        obtain ⟨a6, c6, rfl⟩ := own8_form r6
        have F6 := F4.keep (B5.trans b6).size ((B5.trans b6).block _ F4.lt)
        have B6 := B4.trans ((B5.trans b6).mono B4.size)
        have hsz6 := (B5.trans b6).size
        have hL := (stuff_length (bl X)).2
        rw [bl_length] at hL
        clear g4 g3 r5 r0 b6 B5 F4 B4
        generalize hN6 : 1 + (stuff (bl X)).length = n6 at *
        have HN6 := hide hN6
        have hn6 : n6 ≤ 261 := by omega
        clear hN6
        have q2 := F6.c2
        go_wp2_with fail
        refine (covered_any k X _ hx2 (by omega)).mono ?_
        rintro e w7 ⟨rfl, rfl⟩
        have hcs : (cov k X).size ≤ 1000000 := by unfold cov; split; rw [ByteArray.size_extract]; omega; omega
        go_wp2_with fail
        refine (fsum_any (cov k X) _ (HF.out _ B6) (by unfold maxLen; omega)).mono ?_
        rintro e w7 ⟨rfl, rfl⟩
        have hfs := fsum_lt (bl (cov k X))
        obtain ⟨S, hS⟩ : ∃ S, fsum (bl (cov k X)) = S := ⟨_, rfl⟩
        rw [hS] at hfs ⊢
        have HS := hide hS
        clear hS hcs
        go_wp2_with fail
        refine (put_some wc.heap.size n6 1 1 c6 a6 ([126] ++ stuff (bl X)) w6.heap.size 0 [S] _ (r6.alloc _) (by simp; omega) rfl (bytes_cons hfs bytes_nil) (by simp) (fun j hj => ?_) (fun e => by have := (r6.lt _ e).2; omega) (by omega)).mono ?_
        · obtain rfl : j = 0 := by simp at hj; omega
          exact World.cell?_alloc_new _ _ _ _
        rintro e w7 ⟨v7, rfl, r7, b7⟩
        obtain ⟨a7, c7, rfl⟩ := own8_form r7
        have B7 : Below w.heap.size w w7 := (B6.alloc B6.size _).trans (b7.mono B4s)
        have hb1 : (stuff [S]).length ≤ 2 := (stuff_length [S]).2
        have hby : Bytes (([126] ++ stuff (bl X)) ++ stuff [S]) := bytes_append (bytes_append (bytes_cons (by omega) bytes_nil) (stuff_bytes (bl_bytes X))) (stuff_bytes (bytes_cons hfs bytes_nil))
        have hfin : encL k X = (([126] ++ stuff (bl X)) ++ stuff [S]) ++ [126] := by
          unfold encL
          rw [HS.out, stuff_append]
          simp
        have HFIN := hide hfin
        have HBY := hide hby
        generalize hL7 : ([126] ++ stuff (bl X)) ++ stuff [S] = L at *
        have hn7 : n6 + (stuff [S]).length ≤ 300 := by omega
        generalize n6 + (stuff [S]).length = n7 at *
        have hB7 : wc.heap.size ≤ w7.heap.size := by have := b7.size; simp at this; omega
        clear hfin hby hL7 b7 r6 F6 B6
        obtain ⟨i0, hi0, hz0, hz1, hz2⟩ := info_parts u8row
        go_wp2_with (at_builtin; refine wpList_append_own _ rfl (.tmp 52) (.tmp 53) 42 rfl wc.heap.size 5 i0 (.int .u8 0) 1 1 Tryd.underlying42 hi0 hz0 hz1 hz2 rfl (by decide) _ _ _ rfl (r7.alloc _) ⟨w7.heap.size, 0, none⟩ 1 1 [.int .u8 126] rfl rfl (cell_one_new _ _ _) (by simp [Value.oneCell']) (by unfold maxLen; omega) (by omega) (by simp; omega) ?_; intro v8 w8 r8 hgrow _; obtain ⟨a8, c8, rfl⟩ := own8_form r8; have B8 := B7.trans ((own8_grown r7 hB7 hgrow).mono B4s); have hcv := run_own (l := L ++ [126]) (by rw [u8s_append]; exact r8) (bytes_append HBY.out (bytes_cons (by omega) bytes_nil)))
        go_ret2
        exact ⟨by rw [HX.out, HFIN.out]; rfl, B8⟩

end Go.Proofs.YtnnimkailajgaaaDoor
