/- A loop over an iterator that keeps a state of its own in cells: a law for loops that are never left early, over the kit's laws of a round and of the statement. -/
import Derived.Test.YtkgdnpodohpppaaBase
import Derived.RangeFuncNested
import Derived.RangeFuncCalls
import Derived.RangeFuncLeaves
import Derived.RangeFuncBox
import Derived.OwnWalkIn
import Derived.TacticsInMore
import Derived.LoopNIn
import Derived.LoopIn
import Derived.OwnWalk
import Derived.Shelf.RegionOpen
namespace Go.Proofs.Ytkgdnpodohpppaa
open Go.RowKit
set_option linter.unusedVariables false
set_option linter.unusedSimpArgs false

/-- Of certain blocks nothing turns. -/
def Lies (M : Nat → Prop) (A B : World) : Prop := ∀ b, M b → B.heap[b]? = A.heap[b]?
/-- An iterator that hands on enc 0 .. enc (N - 1), all rounds going on; the blocks M are its own. -/
def SeqMine (n : Nat) (P : Program) (g : Nat) (lb : Array Value) (enc : Nat → Array Value) (N : Nat) (M : Nat → Prop) (w0 : World) : Prop :=
  ∀ (l : Nat) (J : Nat → World → Prop) (W : World), Lies M w0 W →
    (∀ k A B row, J k A → A.grownBy B row → (∀ r, row = some r → M r) → J k B) →
    (∀ k A, J k A → k < N → YieldAt Fence.wide (n - 1) P l (enc k) A fun e B => e = .returned (.bool true) ∧ J (k + 1) B ∧ Lies M A B) →
    J 0 W → CallsIn Fence.wide n P g (#[.func (.yield l) #[] #[]] ++ lb) W fun e W' => (∃ v, e = .returned v) ∧ J N W'

/-- How a round's body ends. -/
def minePost (B : Nat) (M : Nat → Prop) (I : Nat → World → Prop) (k : Nat) (W : World) : Exit → Act → World → Prop
  | .normal, _, W' => KeepsFrom B W W' ∧ Lies M W W' ∧ I (k + 1) W'
  | _, _, _ => False

variable {P : Program}
theorem wpIn_range_mine {n : Nat} {g : Operand} {ps : Array Tmp} {assign body : Code} {Q : Exit → Act → World → Prop} {a : Act} {w : World}
    {gf : Nat} {lb : Array Value} (hg : a.eval g = .func (.func gf) #[] lb) (eg : ∀ args w, (callFunc gf args).run P w = .ok (.enter gf args) w)
    {enc : Nat → Array Value} {N : Nat} {M : Nat → Prop} (hM : ∀ b, M b → b < w.heap.size) (hseq : SeqMine (n - 1) P gf lb enc N M w) (hps : ∀ k, (enc k).size = ps.size)
    (I : Nat → World → Prop)
    (hI : ∀ k A B row, I k A → A.grownBy B row → (∀ r, row = some r → M r ∨ (w.heap.size ≤ r ∧ ∃ o : Obj, A.heap[r]? = some o ∧ o.isCells = false)) → I k B) (h0 : I 0 w) (a₁ : Nat → Act)
    (hassign : ∀ (l k : Nat) (W : World) (K : Act → World → Prop), K (a₁ k) W →
      assign.wpIn (Fence.wide.inRound l) (n - 1 - 1) P (Exit.then K (fun _ _ _ => False)) { tmps := (ps.zip (enc k)).foldl (fun t (p, v) => t.setIfInBounds p v) a.tmps, defers := [] } W)
    (hbody : ∀ (l k : Nat) (W : World), I k W → k < N → body.wpIn (Fence.wide.inRound l) (n - 1 - 1) P (minePost w.heap.size M I k W) (a₁ k) W)
    (hdone : ∀ (D : Nat) (W : World), w.heap.size ≤ D → I N W → W.heap[D]? = some (.deferred (some [])) → Q .normal { a with defers := { target := .collected D, args := #[] } :: a.defers } W) :
    (Code.rangeFunc g ps assign body).wpIn Fence.wide n P Q a w := by
  refine wpIn_rangeFunc fun fn hfn => ?_
  obtain ⟨rec, hrec⟩ : ∃ rec : LoopState → Loop, rec = fun st => { state := st, pending := none, fn, tmps := a.tmps, params := ps, assign, body, defers := w.heap.size } := ⟨_, rfl⟩
  have hz := World.size_alloc w (.deferred (some []))
  have hL : ((w.alloc (.deferred (some []))).alloc (.loop (rec .ready))).heap[w.heap.size + 1]? = some (.loop (rec .ready)) := by
    have := World.alloc_heap_new (w.alloc (.deferred (some []))) (.loop (rec .ready))
    rwa [hz] at this
  have hK : ((w.alloc (.deferred (some []))).alloc (.loop (rec .ready))).heap[w.heap.size]? = some (.deferred (some [])) :=
    (Below.heap_alloc _ _ _ (by rw [hz]; omega)).trans (World.alloc_heap_new w _)
  have hgr : w.grownBy ((w.alloc (.deferred (some []))).alloc (.loop (rec .ready))) none := (World.grownBy_alloc w _ none).trans (World.grownBy_alloc _ _ none)
  refine ⟨w.heap.size + 1, [{ target := .collected w.heap.size, args := #[] }], (w.alloc (.deferred (some []))).alloc (.loop (rec .ready)),
    { target := .fn (.func gf) lb, args := #[.func (.yield (w.heap.size + 1)) #[] #[]] }, (w.alloc (.deferred (some []))).alloc (.loop (rec .ready)), gf,
    #[.func (.yield (w.heap.size + 1)) #[] #[]] ++ lb, (w.alloc (.deferred (some []))).alloc (.loop (rec .ready)), ?_, ?_, fun _ _ => trivial, ?_, fun h => by simp [Fence.wide] at h, ?_⟩
  · rw [hrec]; exact run_enterLoop_outer _ _ _ _ _
  · simp only [resolve, hg]
    simp [go_sem]
  · simp [invoke, go_sem, eg]
  · have hrow : ∀ {A : World} {j r : Nat} {o : Obj}, A.heap[j]? = some o → (o.isCells = false) → w.heap.size ≤ j → M r → j ≠ r := fun _ _ hj hr e => by have := hM _ hr; omega
    refine (hseq (w.heap.size + 1) (fun k W => I k W ∧ W.heap[w.heap.size + 1]? = some (.loop (rec .ready)) ∧ W.heap[w.heap.size]? = some (.deferred (some [])))
      _ (fun b hb => hgr.block b (hM b hb) (by simp)) ?_ ?_ ⟨hI _ _ _ _ h0 hgr (by simp), hL, hK⟩).mono ?_
    · rintro k A B row ⟨h1, h2, h3⟩ hAB hr
      refine ⟨hI _ _ _ _ h1 hAB (fun r e => .inl (hr r e)), (hAB.block _ (Array.getElem?_eq_some_iff.1 h2).1 fun e => ?_).trans h2, (hAB.block _ (Array.getElem?_eq_some_iff.1 h3).1 fun e => ?_).trans h3⟩
      · have := hM _ (hr _ e.symm); omega
      · have := hM _ (hr _ e.symm); omega
    · rintro k A ⟨h1, h2, h3⟩ hk
      have hy := run_yield (P := P) (args := enc k) h2 (by rw [hrec]; exact hps k)
      rw [hrec] at hy
      refine ⟨fn, _, assign, body, hy, roundIn_of_wpIn hfn (hassign _ k A _ ⟨_, run_beginRound h2 (by rw [hrec]), ?_⟩)⟩
      obtain ⟨R, hR⟩ : ∃ R : Loop, R = { rec .ready with state := .busy } := ⟨_, rfl⟩
      rw [← hR]
      have hlt : w.heap.size + 1 < A.heap.size := (Array.getElem?_eq_some_iff.1 h2).1
      have g1 : A.grownBy (A.putObj (w.heap.size + 1) (.loop R)) (some (w.heap.size + 1)) := grownBy_putObj' _ _ _
      have b2 : (A.putObj (w.heap.size + 1) (.loop R)).heap[w.heap.size + 1]? = some (.loop R) := World.putObj_heap_same hlt
      have b3 : (A.putObj (w.heap.size + 1) (.loop R)).heap[w.heap.size]? = some (.deferred (some [])) := (World.putObj_heap_other (by omega)).trans h3
      refine wpIn_mono (hbody _ k _ (hI _ _ _ _ h1 g1 (fun r e => by cases e; exact .inr ⟨by omega, _, h2, rfl⟩)) hk) ?_
      rintro e a3 C hp
      cases e with
      | normal =>
        obtain ⟨k1, k2, k3⟩ := hp
        have c2 := k1.same _ _ (by omega) b2 rfl
        have c3 := k1.same _ _ (Nat.le_refl _) b3 rfl
        have he := run_endRound (P := P) none c2
        refine ⟨_, _, he, rfl, ⟨hI _ _ _ _ k3 (grownBy_putObj' _ _ _) (fun r e => by cases e; exact .inr ⟨by omega, _, c2, rfl⟩), ?_, (World.putObj_heap_other (by omega)).trans c3⟩, fun b hb => ?_⟩
        · rw [World.putObj_heap_same (Array.getElem?_eq_some_iff.1 c2).1, hR, hrec]; rfl
        · have hbl := hM b hb
          rw [World.putObj_heap_other (by omega), k2 b hb, World.putObj_heap_other (by omega)]
      | _ => exact hp.elim
    · rintro e W2 ⟨⟨v, rfl⟩, h1, h2, h3⟩
      refine ⟨none, _, by have := run_endLoop (P := P) h2 (by rw [hrec]; simp); rw [hrec] at this; exact this, hdone _ _ (Nat.le_refl _) (hI _ _ _ _ h1 (grownBy_putObj' _ _ _) (fun r e => by cases e; exact .inr ⟨by omega, _, h2, rfl⟩)) ((World.putObj_heap_other (by omega)).trans h3)⟩

end Go.Proofs.Ytkgdnpodohpppaa
