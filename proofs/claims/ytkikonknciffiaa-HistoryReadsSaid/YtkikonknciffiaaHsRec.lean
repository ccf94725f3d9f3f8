/- A judge's small functions: New, record, other, waiting, there, ended: the walks. -/
import Derived.Test.YtkikonknciffiaaHsMem
import Derived.Test.YtkikonknciffiaaRegion
import Derived.WalkMore
import Derived.Carry
import Derived.RangeFuncRecord
import Derived.Deep.CutRange
import Derived.Deep.DeepCutAuto
import Derived.BigQuiet
namespace Go.Proofs.Ytkikonknciffiaa
open Go.RowKit
set_option linter.unusedVariables false
set_option linter.unusedSimpArgs false

theorem there_any (d : Nat) (w : World) : Calls Try.prog 31 #[.int .u8 (d : Int)] w fun e w' => e = .returned (.bool (there d)) ∧ w = w' := by
  have h1 : (decide (0 < d) && decide (d ≤ 63)) = there d := rfl
  go_enter Try.func31, Try.ntmps31
  by_cases h0 : 0 < d
  · have h0' : (0 : Int) < (d : Int) := by omega
    by_cases h2 : d ≤ 63
    · have h2' : (d : Int) ≤ 63 := by omega
      go_wp2
      go_ret
      exact ⟨by simp [there, h0, h2], rfl⟩
    · have h2' : ¬ (d : Int) ≤ 63 := by omega
      go_wp2
      go_ret
      exact ⟨by simp [there, h2], rfl⟩
  · have h0' : ¬ (0 : Int) < (d : Int) := by omega
    go_wp2
    go_ret
    exact ⟨by simp [there, h0], rfl⟩
theorem hended_any (x : Int) (w : World) : Calls Try.prog 42 #[.int .i64 x] w fun e w' => e = .returned (.bool (endedE x)) ∧ w = w' := by
  go_enter Try.func42, Try.ntmps42
  by_cases h0 : x = 260
  · subst h0
    go_wp2
    go_ret
    exact ⟨rfl, rfl⟩
  · have h1 : (x == 260) = false := beq_eq_false_iff_ne.2 h0
    go_wp2
    go_ret
    exact ⟨by simp [endedE, h0]; rfl, rfl⟩
theorem hnew_any (w : World) : Calls Try.prog 13 #[] w fun e w' => e = .returned (.pointer (some ⟨w.heap.size + 1, 0, none⟩)) ∧ JAt w.heap.size (w.heap.size + 1) zJ [] w' ∧ Below w.heap.size w w' := by
  have B2 := ((Below.refl w.heap.size w).alloc (Nat.le_refl _) (.map #[] 0)).alloc (by rw [World.size_alloc]; omega) (.cells #[.int .i64 0, .bool false, .map (some w.heap.size)] 50)
  have h1 : ((w.alloc (.map #[] 0)).alloc (.cells #[.int .i64 0, .bool false, .map (some w.heap.size)] 50)).heap[w.heap.size + 1]? = some (.cells #[.int .i64 0, .bool false, .map (some w.heap.size)] 50 (0, 0)) := by
    have := World.alloc_heap_new (w.alloc (.map #[] 0)) (.cells #[.int .i64 0, .bool false, .map (some w.heap.size)] 50)
    rw [World.size_alloc] at this
    exact this
  have h2 : ((w.alloc (.map #[] 0)).alloc (.cells #[.int .i64 0, .bool false, .map (some w.heap.size)] 50)).heap[w.heap.size]? = some (.map #[] 0) := (Below.heap_alloc _ _ _ (by rw [World.size_alloc]; omega)).trans (World.alloc_heap_new w _)
  have J : JAt w.heap.size (w.heap.size + 1) zJ [] ((w.alloc (.map #[] 0)).alloc (.cells #[.int .i64 0, .bool false, .map (some w.heap.size)] 50)) :=
    ⟨Nat.le_succ _, ⟨w.heap.size, Nat.le_refl _, h1, h2⟩, ⟨fun x hx => (by cases hx), fun _ _ _ _ h _ => (by cases h), fun _ _ _ _ _ h _ => (by cases h), fun _ _ _ => rfl⟩⟩
  clear h1 h2
  have hmm := @run_makeMap Try.prog
  go_enter Try.func13, Try.ntmps13
  go_wp2
  go_ret
  exact ⟨rfl, J, B2⟩
theorem waiting_any (g k : Nat) (r : Rc) (w : World) (h : RcBlk w g r) (hk : k ≤ 5) : Calls Try.prog 33 #[.pointer (some ⟨g, 0, none⟩), .int .u8 (k : Int)] w fun e w' => e = .returned (.bool (waiting r k)) ∧ w = w' := by
  obtain ⟨c0, c1, c2, c3, c4, c5, c6, c7, c8⟩ := rc_wait h k hk
  have hk' : (k : Int) < 6 := by omega
  clear h
  go_enter Try.func33, Try.ntmps33
  by_cases h0 : (r.waits k).kind = 0
  · rw [h0] at c2
    go_wp2
    go_ret
    exact ⟨by simp [waiting, h0], rfl⟩
  · have h1 : (((r.waits k).kind : Int) == 0) = false := beq_eq_false_iff_ne.2 (by omega)
    go_wp2
    go_ret
    exact ⟨by simp [waiting, h0], rfl⟩

/-- What the making of a record reads. -/
structure JP (gj gm gp : Nat) (js : JS) (s d : Nat) (W : World) : Prop where
  a : W.heap[gj]? = some (.cells #[.int .i64 js.last, .bool js.some, .map (some gm)] 50 (0, 0))
  b : W.heap[gp]? = some (.cells #[.int .u8 (s : Int), .int .u8 (d : Int)] 62 (0, 0))
theorem JP.below {gj gm gp : Nat} {js : JS} {s d : Nat} {W W' : World} (h : JP gj gm gp js s d W) (b : Below W.heap.size W W') : JP gj gm gp js s d W' :=
  ⟨(b.block _ (Array.getElem?_eq_some_iff.1 h.a).1).trans h.a, (b.block _ (Array.getElem?_eq_some_iff.1 h.b).1).trans h.b⟩
theorem JP.cells {gj gm gp : Nat} {js : JS} {s d : Nat} {W : World} (h : JP gj gm gp js s d W) :
    W.cell? ⟨gj, 0, none⟩ = some (.int .i64 js.last) ∧ W.cell? ⟨gj, 1, none⟩ = some (.bool js.some) ∧ W.cell? ⟨gj, 2, none⟩ = some (.map (some gm)) ∧ W.cell? ⟨gp, 0, none⟩ = some (.int .u8 (s : Int)) ∧ W.cell? ⟨gp, 1, none⟩ = some (.int .u8 (d : Int)) := by
  refine ⟨?_, ?_, ?_, ?_, ?_⟩
  · simp only [World.cell?, h.a]; rfl
  · simp only [World.cell?, h.a]; rfl
  · simp only [World.cell?, h.a]; rfl
  · simp only [World.cell?, h.b]; rfl
  · simp only [World.cell?, h.b]; rfl

/-- .. and its map. -/
structure JQ (gj gm gp : Nat) (js : JS) (s d : Nat) (L : List (Nat × Nat × Nat)) (W : World) : Prop where
  p : JP gj gm gp js s d W
  m : W.heap[gm]? = some (.map (ents L) L.length)
theorem JQ.look_some {gj gm gp s d g : Nat} {js : JS} {L : List (Nat × Nat × Nat)} {W : World} (h : JQ gj gm gp js s d L W) (hf : findR s d L = some g) :
    (Instr.lookup 48 (.map (some gm)) (.agg #[.int .u8 (s : Int), .int .u8 (d : Int)]) false).run Try.prog W = .ok (.pointer (some ⟨g, 0, none⟩)) W := by
  have := look_run W gm _ s d L h.m
  rw [hf] at this
  exact this
theorem JQ.look_none {gj gm gp s d : Nat} {js : JS} {L : List (Nat × Nat × Nat)} {W : World} (h : JQ gj gm gp js s d L W) (hf : findR s d L = none) :
    (Instr.lookup 48 (.map (some gm)) (.agg #[.int .u8 (s : Int), .int .u8 (d : Int)]) false).run Try.prog W = .ok (.pointer none) W := by
  have := look_run W gm _ s d L h.m
  rw [hf] at this
  exact this
/-- The map behind a store at a new key. -/
theorem JAt.put {B gj gm s d g : Nat} {js : JS} {L : List (Nat × Nat × Nat)} {W W' : World} (h : JAt B gj js L W) (hj : W.heap[gj]? = some (.cells #[.int .i64 js.last, .bool js.some, .map (some gm)] 50 (0, 0))) (hgm : B ≤ gm) (hm : W.heap[gm]? = some (.map (ents L) L.length)) (hf : findR s d L = none)
    (hB : B ≤ g) (hg : RcBlk W g zR) (hn : ∀ x ∈ L, x.2.2 ≠ g) (ho : ∀ j, j ≠ gm → W'.heap[j]? = W.heap[j]?) (hm' : W'.heap[gm]? = some (.map (ents (L ++ [(s, d, g)])) (L ++ [(s, d, g)]).length)) : JAt B gj js (L ++ [(s, d, g)]) W' := by
  have notmap : ∀ j cs t fr, W.heap[j]? = some (Obj.cells cs t fr) → j ≠ gm := by
    intro j cs t fr hc e
    subst e
    have e5 := hm.symm.trans hc
    injection e5 with e5
    cases e5
  refine ⟨h.ge, ⟨gm, hgm, (ho gj (notmap _ _ _ _ hj)).trans hj, hm'⟩, ⟨fun x hx => ?_, fun a b c c' h1 h2 => ?_, fun a b a' b' c h1 h2 => ?_, fun a b hf' => ?_⟩⟩
  · rcases List.mem_append.1 hx with hx | hx
    · obtain ⟨h1, h2⟩ := h.recs.blk x hx
      exact ⟨h1, (ho _ (notmap _ _ _ _ h2)).trans h2⟩
    · obtain rfl := List.mem_singleton.1 hx
      refine ⟨hB, ?_⟩
      show RcBlk W' g (js.recs s d)
      rw [h.recs.rest s d hf]
      exact (ho _ (notmap _ _ _ _ hg)).trans hg
  · rcases List.mem_append.1 h1 with m1 | m1
    · rcases List.mem_append.1 h2 with m2 | m2
      · exact h.recs.keys _ _ _ _ m1 m2
      · have e := List.mem_singleton.1 m2
        simp only [Prod.mk.injEq] at e
        obtain ⟨rfl, rfl, rfl⟩ := e
        exact absurd m1 (findR_none hf _)
    · have e := List.mem_singleton.1 m1
      simp only [Prod.mk.injEq] at e
      obtain ⟨rfl, rfl, rfl⟩ := e
      rcases List.mem_append.1 h2 with m2 | m2
      · exact absurd m2 (findR_none hf _)
      · have e := List.mem_singleton.1 m2
        simp only [Prod.mk.injEq] at e
        exact e.2.2.symm
  · rcases List.mem_append.1 h1 with m1 | m1
    · rcases List.mem_append.1 h2 with m2 | m2
      · exact h.recs.apart _ _ _ _ _ m1 m2
      · have e := List.mem_singleton.1 m2
        simp only [Prod.mk.injEq] at e
        exact absurd e.2.2 (hn _ m1)
    · have e := List.mem_singleton.1 m1
      simp only [Prod.mk.injEq] at e
      obtain ⟨rfl, rfl, rfl⟩ := e
      rcases List.mem_append.1 h2 with m2 | m2
      · exact absurd rfl (hn _ m2)
      · have e := List.mem_singleton.1 m2
        simp only [Prod.mk.injEq] at e
        exact ⟨e.1.symm, e.2.1.symm⟩
  · rw [findR_snoc] at hf'
    cases hfa : findR a b L with
    | some x => rw [hfa] at hf'; cases hf'
    | none => exact h.recs.rest a b hfa
theorem heap_set_of {W : World} {gm : Nat} {o : Obj} (hl : gm < W.heap.size) : ({ W with heap := W.heap.setIfInBounds gm o } : World).heap[gm]? = some o ∧ ∀ j, j ≠ gm → ({ W with heap := W.heap.setIfInBounds gm o } : World).heap[j]? = W.heap[j]? :=
  ⟨by simp [hl], fun j hj => by simp [Ne.symm hj]⟩
theorem KJ.put {B gm : Nat} {a W : World} {es : Array MapEntry} {clk : Nat} {o : Obj} (h : KJ B a W) (hB : B ≤ gm) (hm : W.heap[gm]? = some (.map es clk)) : KJ B a { W with heap := W.heap.setIfInBounds gm o } := by
  have hl := (Array.getElem?_eq_some_iff.1 hm).1
  obtain ⟨h1, h2⟩ := heap_set_of (o := o) hl
  refine ⟨h.below.trans ⟨rfl, rfl, rfl, by simp, fun j hj => h2 j (by omega)⟩, fun j cs t fr e1 e2 e3 => ?_⟩
  have e4 := h.keep j cs t fr e1 e2 e3
  refine (h2 j ?_).trans e4
  intro e
  subst e
  have e5 := hm.symm.trans e4
  injection e5 with e5
  cases e5
set_option maxRecDepth 100000 in
set_option maxHeartbeats 2000000 in
theorem record_any (B gj : Nat) (js : JS) (L : List (Nat × Nat × Nat)) (s d : Nat) (w : World) (h : JAt B gj js L w) :
    Calls Try.prog 32 #[.pointer (some ⟨gj, 0, none⟩), .agg #[.int .u8 (s : Int), .int .u8 (d : Int)]] w fun e w' => ∃ g L', e = .returned (.pointer (some ⟨g, 0, none⟩)) ∧ JAt B gj js L' w' ∧ (s, d, g) ∈ L' ∧ (∀ x ∈ L, x ∈ L') ∧ KJ B w w' := by
  obtain ⟨gm, hgm, hj, hm⟩ := h.row
  have hB : B ≤ w.heap.size := Nat.le_trans h.ge (Nat.le_of_lt h.lt)
  have b1 := (Below.refl w.heap.size w).alloc (Nat.le_refl _) (.cells #[.int .u8 (s : Int), .int .u8 (d : Int)] 62)
  have J1 := h.alloc (.cells #[.int .u8 (s : Int), .int .u8 (d : Int)] 62)
  have k1 := KJ.ofBelow hB b1
  have hS1 : JP gj gm w.heap.size js s d (w.alloc (.cells #[.int .u8 (s : Int), .int .u8 (d : Int)] 62)) := ⟨(b1.block _ (Array.getElem?_eq_some_iff.1 hj).1).trans hj, World.alloc_heap_new w _⟩
  have hm1 := (b1.block _ (Array.getElem?_eq_some_iff.1 hm).1).trans hm
  have hS1 : JQ gj gm w.heap.size js s d L _ := ⟨hS1, hm1⟩
  obtain ⟨e0, e1, e2, e3, e4⟩ := hS1.p.cells
  clear b1 hj hm h hm1
  go_enter Try.func32, Try.ntmps32
  go_upto_region 1 with (fail)
  generalize w.alloc (.cells #[.int .u8 (s : Int), .int .u8 (d : Int)] 62) = w1 at *
  cases hf : findR s d L with
  | some g =>
    refine wp_region_held (S := fun W => JQ gj gm w.heap.size js s d L W) (by kernel_rfl) ?_
    change wpAnyH _ _ _ _ _ _ _ _ (World.drew _)
    have hS : JQ gj gm w.heap.size js s d L w1.drew := ⟨⟨hS1.p.a, hS1.p.b⟩, hS1.m⟩
    have J2 := J1.drew
    have k2 : KJ B w w1.drew := ⟨below_drewN k1.below 1, k1.keep⟩
    clear hS1 J1 k1 e0 e1 e2 e3 e4
    generalize w1.drew = w2 at *
    refine take_atH 0 5 hS rfl rfl (by kernel_rfl) (by kernel_rfl) (by kernel_rfl) (fun _ _ _ h => h) rfl (fun wq hq => by go_simp; first | done | with_reducible rfl) ?_
    simp only [Act.put, List.setIfInBounds_toArray, List.set_cons_zero, List.set_cons_succ]
    refine take_atH 1 6 hS rfl rfl (by kernel_rfl) (by kernel_rfl) (by kernel_rfl) (fun _ _ _ h => h) rfl (fun wq hq => by go_simp; first | done | with_reducible rfl) ?_
    simp only [Act.put, List.setIfInBounds_toArray, List.set_cons_zero, List.set_cons_succ]
    refine take_atH 2 7 hS rfl rfl (by kernel_rfl) (by kernel_rfl) (by kernel_rfl) (fun _ _ _ h => h) rfl (fun wq hq => by go_simp; first | done | with_reducible rfl) ?_
    simp only [Act.put, List.setIfInBounds_toArray, List.set_cons_zero, List.set_cons_succ]
    refine take_atH 3 8 hS rfl rfl (by kernel_rfl) (by kernel_rfl) (by kernel_rfl) (fun _ _ _ h => h) rfl (fun wq hq => by obtain ⟨e0, e1, e2, e3, e4⟩ := hq.p.cells; have hl := hq.look_some hf; go_simp; first | done | with_reducible rfl) ?_
    simp only [Act.put, List.setIfInBounds_toArray, List.set_cons_zero, List.set_cons_succ]
    refine take_atH 4 9 hS rfl rfl (by kernel_rfl) (by kernel_rfl) (by kernel_rfl) (fun _ _ _ h => h) rfl (fun wq hq => by obtain ⟨e0, e1, e2, e3, e4⟩ := hq.p.cells; have hl := hq.look_some hf; go_simp; first | done | with_reducible rfl) ?_
    simp only [Act.put, List.setIfInBounds_toArray, List.set_cons_zero, List.set_cons_succ]
    refine take_atH 5 10 hS rfl rfl (by kernel_rfl) (by kernel_rfl) (by kernel_rfl) (fun _ _ _ h => h) rfl (fun wq hq => by obtain ⟨e0, e1, e2, e3, e4⟩ := hq.p.cells; have hl := hq.look_some hf; go_simp; first | done | with_reducible rfl) ?_
    simp only [Act.put, List.setIfInBounds_toArray, List.set_cons_zero, List.set_cons_succ]
    refine take_atH 6 11 hS rfl rfl (by kernel_rfl) (by kernel_rfl) (by kernel_rfl) (fun _ _ _ h => h) rfl (fun wq hq => by go_simp; first | done | with_reducible rfl) ?_
    simp only [Act.put, List.setIfInBounds_toArray, List.set_cons_zero, List.set_cons_succ]
    refine wpAnyH_done (by kernel_rfl) ?_ _
    have hS2 := hS
    clear hS
    go_upto_region 3 with (fail)
    refine wp_region_held (S := fun W => JQ gj gm w.heap.size js s d L W) (by kernel_rfl) ?_
    change wpAnyH _ _ _ _ _ _ _ _ (World.drew _)
    have hS : JQ gj gm w.heap.size js s d L w2.drew := ⟨⟨hS2.p.a, hS2.p.b⟩, hS2.m⟩
    have J3 := J2.drew
    have k3 : KJ B w w2.drew := ⟨below_drewN k2.below 1, k2.keep⟩
    clear hS2 J2 k2
    generalize w2.drew = w3 at *
    refine take_atH 0 19 hS rfl rfl (by kernel_rfl) (by kernel_rfl) (by kernel_rfl) (fun _ _ _ h => h) rfl (fun wq hq => by go_simp; first | done | with_reducible rfl) ?_
    simp only [Act.put, List.setIfInBounds_toArray, List.set_cons_zero, List.set_cons_succ]
    refine take_atH 1 20 hS rfl rfl (by kernel_rfl) (by kernel_rfl) (by kernel_rfl) (fun _ _ _ h => h) rfl (fun wq hq => by go_simp; first | done | with_reducible rfl) ?_
    simp only [Act.put, List.setIfInBounds_toArray, List.set_cons_zero, List.set_cons_succ]
    refine take_atH 2 21 hS rfl rfl (by kernel_rfl) (by kernel_rfl) (by kernel_rfl) (fun _ _ _ h => h) rfl (fun wq hq => by go_simp; first | done | with_reducible rfl) ?_
    simp only [Act.put, List.setIfInBounds_toArray, List.set_cons_zero, List.set_cons_succ]
    refine take_atH 3 22 hS rfl rfl (by kernel_rfl) (by kernel_rfl) (by kernel_rfl) (fun _ _ _ h => h) rfl (fun wq hq => by obtain ⟨e0, e1, e2, e3, e4⟩ := hq.p.cells; have hl := hq.look_some hf; go_simp; first | done | with_reducible rfl) ?_
    simp only [Act.put, List.setIfInBounds_toArray, List.set_cons_zero, List.set_cons_succ]
    refine take_atH 4 23 hS rfl rfl (by kernel_rfl) (by kernel_rfl) (by kernel_rfl) (fun _ _ _ h => h) rfl (fun wq hq => by obtain ⟨e0, e1, e2, e3, e4⟩ := hq.p.cells; have hl := hq.look_some hf; go_simp; first | done | with_reducible rfl) ?_
    simp only [Act.put, List.setIfInBounds_toArray, List.set_cons_zero, List.set_cons_succ]
    refine take_atH 5 24 hS rfl rfl (by kernel_rfl) (by kernel_rfl) (by kernel_rfl) (fun _ _ _ h => h) rfl (fun wq hq => by obtain ⟨e0, e1, e2, e3, e4⟩ := hq.p.cells; have hl := hq.look_some hf; go_simp; first | done | with_reducible rfl) ?_
    simp only [Act.put, List.setIfInBounds_toArray, List.set_cons_zero, List.set_cons_succ]
    refine take_atH 6 4 hS rfl rfl (by kernel_rfl) (by kernel_rfl) (by kernel_rfl) (fun _ _ _ h => h) rfl (fun wq hq => by go_simp; first | done | with_reducible rfl) ?_
    simp only [Act.put, List.setIfInBounds_toArray, List.set_cons_zero, List.set_cons_succ]
    refine wpAnyH_done (by kernel_rfl) ?_ _
    go_wp2
    go_ret
    exact ⟨g, L, rfl, J3, findR_mem hf, fun x hx => hx, k3⟩
  | none =>
    refine wp_region_held (S := fun W => JQ gj gm w.heap.size js s d L W) (by kernel_rfl) ?_
    change wpAnyH _ _ _ _ _ _ _ _ (World.drew _)
    have hS : JQ gj gm w.heap.size js s d L w1.drew := ⟨⟨hS1.p.a, hS1.p.b⟩, hS1.m⟩
    have J2 := J1.drew
    have k2 : KJ B w w1.drew := ⟨below_drewN k1.below 1, k1.keep⟩
    clear hS1 J1 k1 e0 e1 e2 e3 e4
    generalize w1.drew = w2 at *
    refine take_atH 0 5 hS rfl rfl (by kernel_rfl) (by kernel_rfl) (by kernel_rfl) (fun _ _ _ h => h) rfl (fun wq hq => by go_simp; first | done | with_reducible rfl) ?_
    simp only [Act.put, List.setIfInBounds_toArray, List.set_cons_zero, List.set_cons_succ]
    refine take_atH 1 6 hS rfl rfl (by kernel_rfl) (by kernel_rfl) (by kernel_rfl) (fun _ _ _ h => h) rfl (fun wq hq => by go_simp; first | done | with_reducible rfl) ?_
    simp only [Act.put, List.setIfInBounds_toArray, List.set_cons_zero, List.set_cons_succ]
    refine take_atH 2 7 hS rfl rfl (by kernel_rfl) (by kernel_rfl) (by kernel_rfl) (fun _ _ _ h => h) rfl (fun wq hq => by go_simp; first | done | with_reducible rfl) ?_
    simp only [Act.put, List.setIfInBounds_toArray, List.set_cons_zero, List.set_cons_succ]
    refine take_atH 3 8 hS rfl rfl (by kernel_rfl) (by kernel_rfl) (by kernel_rfl) (fun _ _ _ h => h) rfl (fun wq hq => by obtain ⟨e0, e1, e2, e3, e4⟩ := hq.p.cells; have hl := hq.look_none hf; go_simp; first | done | with_reducible rfl) ?_
    simp only [Act.put, List.setIfInBounds_toArray, List.set_cons_zero, List.set_cons_succ]
    refine take_atH 4 9 hS rfl rfl (by kernel_rfl) (by kernel_rfl) (by kernel_rfl) (fun _ _ _ h => h) rfl (fun wq hq => by obtain ⟨e0, e1, e2, e3, e4⟩ := hq.p.cells; have hl := hq.look_none hf; go_simp; first | done | with_reducible rfl) ?_
    simp only [Act.put, List.setIfInBounds_toArray, List.set_cons_zero, List.set_cons_succ]
    refine take_atH 5 10 hS rfl rfl (by kernel_rfl) (by kernel_rfl) (by kernel_rfl) (fun _ _ _ h => h) rfl (fun wq hq => by obtain ⟨e0, e1, e2, e3, e4⟩ := hq.p.cells; have hl := hq.look_none hf; go_simp; first | done | with_reducible rfl) ?_
    simp only [Act.put, List.setIfInBounds_toArray, List.set_cons_zero, List.set_cons_succ]
    refine take_atH 6 11 hS rfl rfl (by kernel_rfl) (by kernel_rfl) (by kernel_rfl) (fun _ _ _ h => h) rfl (fun wq hq => by go_simp; first | done | with_reducible rfl) ?_
    simp only [Act.put, List.setIfInBounds_toArray, List.set_cons_zero, List.set_cons_succ]
    refine wpAnyH_done (by kernel_rfl) ?_ _
    have hS2 := hS
    clear hS
    go_upto_region 2 with (fail)
    refine wp_region_held (S := fun W => JP gj gm w.heap.size js s d W) (by kernel_rfl) ?_
    change wpAnyH _ _ _ _ _ _ _ _ (World.drew _)
    have hS : JP gj gm w.heap.size js s d w2.drew := ⟨hS2.p.a, hS2.p.b⟩
    have hm2 : w2.drew.heap[gm]? = some (.map (ents L) L.length) := hS2.m
    have J3 := J2.drew
    have k3 : KJ B w w2.drew := ⟨below_drewN k2.below 1, k2.keep⟩
    clear hS2 J2 k2
    generalize w2.drew = w3 at *
    refine take_atH 0 12 hS rfl rfl (by kernel_rfl) (by kernel_rfl) (by kernel_rfl) (fun _ _ _ h => h) rfl (fun wq hq => by go_simp; first | done | with_reducible rfl) ?_
    simp only [Act.put, List.setIfInBounds_toArray, List.set_cons_zero, List.set_cons_succ]
    refine take_atH 1 13 hS rfl rfl (by kernel_rfl) (by kernel_rfl) (by kernel_rfl) (fun _ _ _ h => h) rfl (fun wq hq => by go_simp; first | done | with_reducible rfl) ?_
    simp only [Act.put, List.setIfInBounds_toArray, List.set_cons_zero, List.set_cons_succ]
    refine take_atH 2 14 hS rfl rfl (by kernel_rfl) (by kernel_rfl) (by kernel_rfl) (fun _ _ _ h => h) rfl (fun wq hq => by go_simp; first | done | with_reducible rfl) ?_
    simp only [Act.put, List.setIfInBounds_toArray, List.set_cons_zero, List.set_cons_succ]
    refine take_atH 3 15 hS rfl rfl (by kernel_rfl) (by kernel_rfl) (by kernel_rfl) (fun _ _ _ h => h) rfl (fun wq hq => by obtain ⟨e0, e1, e2, e3, e4⟩ := hq.cells; go_simp; first | done | with_reducible rfl) ?_
    simp only [Act.put, List.setIfInBounds_toArray, List.set_cons_zero, List.set_cons_succ]
    refine take_atH 4 16 hS rfl rfl (by kernel_rfl) (by kernel_rfl) (by kernel_rfl) (fun _ _ _ h => h) rfl (fun wq hq => by obtain ⟨e0, e1, e2, e3, e4⟩ := hq.cells; go_simp; first | done | with_reducible rfl) ?_
    simp only [Act.put, List.setIfInBounds_toArray, List.set_cons_zero, List.set_cons_succ]
    refine take_atH 5 17 hS rfl rfl (by kernel_rfl) (by kernel_rfl) (by kernel_rfl) (fun _ _ _ h => h) rfl (fun wq hq => by go_simp; first | done | with_reducible rfl) ?_
    simp only [Act.put, List.setIfInBounds_toArray, List.set_cons_zero, List.set_cons_succ]
    refine lone_atH 6 rfl (by kernel_rfl) rfl (fun K hK => ?_)
    go_simp
    have hB3 : B ≤ w3.heap.size := Nat.le_trans hB k3.below.size
    have b4 := (Below.refl w3.heap.size w3).alloc (Nat.le_refl _) (.cells (rcA zR) 67)
    have hm4 := (b4.block _ (Array.getElem?_eq_some_iff.1 hm2).1).trans hm2
    have J4 := J3.alloc (.cells (rcA zR) 67)
    have k4 := k3.trans (KJ.ofBelow hB3 b4)
    have hg4 : RcBlk (w3.alloc (.cells (rcA zR) 67)) w3.heap.size zR := World.alloc_heap_new w3 _
    have hS4 := hS.below b4
    have hnew : ∀ x ∈ L, x.2.2 ≠ w3.heap.size := fun x hx => Nat.ne_of_lt (Array.getElem?_eq_some_iff.1 (J3.recs.blk x hx).2).1
    refine hK _ _ hS4 ?_; clear hK K
    refine lone_atH 7 rfl (by kernel_rfl) rfl (fun K hK => ?_)
    have hput := put_run (w3.alloc (.cells (rcA zR) 67)) gm 0 s d w3.heap.size L hm4 hf
    unfold plc at hput
    change (_ : Oper).wp _ _ (w3.alloc (.cells (rcA zR) 67)) K _
    generalize w3.alloc (.cells (rcA zR) 67) = w4 at *
    obtain ⟨hp1, hp2⟩ := heap_set_of (W := w4) (o := .map (ents (L ++ [(s, d, w3.heap.size)])) (L ++ [(s, d, w3.heap.size)]).length) (Array.getElem?_eq_some_iff.1 hm4).1
    have k5 := k4.put (o := .map (ents (L ++ [(s, d, w3.heap.size)])) (L ++ [(s, d, w3.heap.size)]).length) hgm hm4
    obtain ⟨w5, hw5⟩ : ∃ w5, ({ w4 with heap := w4.heap.setIfInBounds gm (.map (ents (L ++ [(s, d, w3.heap.size)])) (L ++ [(s, d, w3.heap.size)]).length) } : World) = w5 := ⟨_, rfl⟩
    rw [hw5] at hput hp1 hp2 k5
    clear hw5
    go_simp
    have J5 := J4.put hS4.a hgm hm4 hf hB3 hg4 hnew hp2 hp1
    have n1 : gj ≠ gm := by intro e; subst e; have e5 := hm4.symm.trans hS4.a; injection e5 with e5; cases e5
    have n2 : w.heap.size ≠ gm := by intro e; rw [← e] at hm4; have e5 := hm4.symm.trans hS4.b; injection e5 with e5; cases e5
    have hS5 : JQ gj gm w.heap.size js s d (L ++ [(s, d, w3.heap.size)]) w5 := ⟨⟨(hp2 gj n1).trans hS4.a, (hp2 _ n2).trans hS4.b⟩, hp1⟩
    refine hK _ _ hS5.p ?_; clear hK K
    refine wpAnyH_done (by kernel_rfl) ?_ _
    clear hput hp1 hp2 hS4 J4 k4 hm4 hg4 hnew hS J3 k3 hm2
    obtain ⟨g, hgs⟩ : ∃ g, w3.heap.size = g := ⟨_, rfl⟩
    rw [hgs] at hS5 J5 ⊢
    replace hf : findR s d (L ++ [(s, d, g)]) = some g := by rw [findR_snoc, hf]; simp
    clear hgs
    go_upto_region 3 with (fail)
    refine wp_region_held (S := fun W => JQ gj gm w.heap.size js s d (L ++ [(s, d, g)]) W) (by kernel_rfl) ?_
    change wpAnyH _ _ _ _ _ _ _ _ (World.drew _)
    have hS : JQ gj gm w.heap.size js s d (L ++ [(s, d, g)]) w5.drew := ⟨⟨hS5.p.a, hS5.p.b⟩, hS5.m⟩
    have J6 := J5.drew
    have k6 : KJ B w w5.drew := ⟨below_drewN k5.below 1, k5.keep⟩
    clear hS5 J5 k5
    generalize w5.drew = w6 at *
    refine take_atH 0 19 hS rfl rfl (by kernel_rfl) (by kernel_rfl) (by kernel_rfl) (fun _ _ _ h => h) rfl (fun wq hq => by go_simp; first | done | with_reducible rfl) ?_
    simp only [Act.put, List.setIfInBounds_toArray, List.set_cons_zero, List.set_cons_succ]
    refine take_atH 1 20 hS rfl rfl (by kernel_rfl) (by kernel_rfl) (by kernel_rfl) (fun _ _ _ h => h) rfl (fun wq hq => by go_simp; first | done | with_reducible rfl) ?_
    simp only [Act.put, List.setIfInBounds_toArray, List.set_cons_zero, List.set_cons_succ]
    refine take_atH 2 21 hS rfl rfl (by kernel_rfl) (by kernel_rfl) (by kernel_rfl) (fun _ _ _ h => h) rfl (fun wq hq => by go_simp; first | done | with_reducible rfl) ?_
    simp only [Act.put, List.setIfInBounds_toArray, List.set_cons_zero, List.set_cons_succ]
    refine take_atH 3 22 hS rfl rfl (by kernel_rfl) (by kernel_rfl) (by kernel_rfl) (fun _ _ _ h => h) rfl (fun wq hq => by obtain ⟨e0, e1, e2, e3, e4⟩ := hq.p.cells; have hl := hq.look_some hf; go_simp; first | done | with_reducible rfl) ?_
    simp only [Act.put, List.setIfInBounds_toArray, List.set_cons_zero, List.set_cons_succ]
    refine take_atH 4 23 hS rfl rfl (by kernel_rfl) (by kernel_rfl) (by kernel_rfl) (fun _ _ _ h => h) rfl (fun wq hq => by obtain ⟨e0, e1, e2, e3, e4⟩ := hq.p.cells; have hl := hq.look_some hf; go_simp; first | done | with_reducible rfl) ?_
    simp only [Act.put, List.setIfInBounds_toArray, List.set_cons_zero, List.set_cons_succ]
    refine take_atH 5 24 hS rfl rfl (by kernel_rfl) (by kernel_rfl) (by kernel_rfl) (fun _ _ _ h => h) rfl (fun wq hq => by obtain ⟨e0, e1, e2, e3, e4⟩ := hq.p.cells; have hl := hq.look_some hf; go_simp; first | done | with_reducible rfl) ?_
    simp only [Act.put, List.setIfInBounds_toArray, List.set_cons_zero, List.set_cons_succ]
    refine take_atH 6 4 hS rfl rfl (by kernel_rfl) (by kernel_rfl) (by kernel_rfl) (fun _ _ _ h => h) rfl (fun wq hq => by go_simp; first | done | with_reducible rfl) ?_
    simp only [Act.put, List.setIfInBounds_toArray, List.set_cons_zero, List.set_cons_succ]
    refine wpAnyH_done (by kernel_rfl) ?_ _
    go_wp2
    go_ret
    exact ⟨g, L ++ [(s, d, g)], rfl, J6, List.mem_append_right _ (List.mem_singleton.2 rfl), fun x hx => List.mem_append_left _ hx, k6⟩

set_option maxRecDepth 100000 in
set_option maxHeartbeats 2000000 in
theorem other_any (B gj : Nat) (js : JS) (L : List (Nat × Nat × Nat)) (s d : Nat) (w : World) (hs : s ≤ 1) (h : JAt B gj js L w) :
    Calls Try.prog 34 #[.pointer (some ⟨gj, 0, none⟩), .agg #[.int .u8 (s : Int), .int .u8 (d : Int)]] w fun e w' => ∃ g L', e = .returned (.pointer (some ⟨g, 0, none⟩)) ∧ JAt B gj js L' w' ∧ (1 - s, d, g) ∈ L' ∧ (∀ x ∈ L, x ∈ L') ∧ KJ B w w' := by
  have hB : B ≤ w.heap.size := Nat.le_trans h.ge (Nat.le_of_lt h.lt)
  have b1 := (Below.refl w.heap.size w).alloc (Nat.le_refl _) (.cells #[.int .u8 (s : Int), .int .u8 (d : Int)] 62)
  have J1 := h.alloc (.cells #[.int .u8 (s : Int), .int .u8 (d : Int)] 62)
  have k1 := KJ.ofBelow hB b1
  have p1 := World.alloc_heap_new w (.cells #[.int .u8 (s : Int), .int .u8 (d : Int)] 62)
  have e0 : (w.alloc (.cells #[.int .u8 (s : Int), .int .u8 (d : Int)] 62)).cell? ⟨w.heap.size, 0, none⟩ = some (.int .u8 (s : Int)) := by simp only [World.cell?, p1]; rfl
  have e1 : (w.alloc (.cells #[.int .u8 (s : Int), .int .u8 (d : Int)] 62)).cell? ⟨w.heap.size, 1, none⟩ = some (.int .u8 (d : Int)) := by simp only [World.cell?, p1]; rfl
  have hw : IntKind.u8.wrap (1 - (s : Int)) = ((1 - s : Nat) : Int) := by
    have : s = 0 ∨ s = 1 := by omega
    rcases this with rfl | rfl <;> rfl
  obtain ⟨s1, hs1⟩ : ∃ s1, 1 - s = s1 := ⟨_, rfl⟩
  rw [hs1] at hw
  have H := hide (record_any B gj js L s1 d _ J1)
  have HS := hide hs1
  clear b1 h p1 J1 hs1
  go_enter Try.func34, Try.ntmps34
  go_upto_region 1 with (fail)
  generalize w.alloc (.cells #[.int .u8 (s : Int), .int .u8 (d : Int)] 62) = w1 at *
  go_wp2_with fail
  refine H.out.mono ?_
  rintro e w2 ⟨g, L', rfl, J2, h2, h3, k2⟩
  go_wp2
  go_ret
  rw [HS.out]
  exact ⟨g, L', rfl, J2, h2, h3, k1.trans k2⟩
end Go.Proofs.Ytkikonknciffiaa
