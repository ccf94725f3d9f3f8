/- append(l[:i:i], l[i+1:]...) of a row of entries; Entry of no judge. -/
import Derived.Test.YtkikonknciffiaaHsKnA
namespace Go.Proofs.Ytkikonknciffiaa
open Go.RowKit
set_option linter.unusedVariables false
set_option linter.unusedSimpArgs false

def cutZ (z : Nat → En) (k : Nat) (i : Nat) : En := if i < k then z i else z (i + 1)
theorem rowC_join {z y x : Nat → En} (k : Nat) (h1 : ∀ i, i < k → x i = z i) : ∀ m, (∀ i, i < m → x (k + i) = y i) → rowC z k ++ rowC y m = rowC x (k + m)
  | 0, _ => by rw [rowC, List.append_nil, rowC_congr k (fun i hi => (h1 i hi).symm)]; rfl
  | m + 1, h2 => by
    rw [rowC, ← List.append_assoc, rowC_join k h1 m (fun i hi => h2 i (by omega)), ← h2 m (by omega)]
    rfl
theorem HoldsE.drop {w : World} {g n s m : Nat} {z : Nat → En} (h : HoldsE w (some ⟨g, 0, none⟩) n z) (hs : s + m ≤ n) : HoldsE w (some ⟨g, s * 9, none⟩) m (fun i => z (s + i)) := by
  intro h0
  obtain ⟨b', o', he, hlt, hc⟩ := h (by omega)
  injection he with he
  injection he with e1 e2 _
  subst e1; subst e2
  refine ⟨g, s * 9, rfl, hlt, fun i hi j hj => ?_⟩
  have := hc (s + i) (by omega) j hj
  rw [show 0 + ((s + i) * 9 + j) = s * 9 + (i * 9 + j) by omega] at this
  exact this
theorem HoldsE.congr {w : World} {a : Option Addr} {n : Nat} {z z' : Nat → En} (h : HoldsE w a n z) (e : ∀ i, i < n → z i = z' i) : HoldsE w a n z' := by
  intro h0
  obtain ⟨b, o, e1, e2, h1⟩ := h h0
  exact ⟨b, o, e1, e2, fun i hi j hj => by rw [← e i hi]; exact h1 i hi j hj⟩
theorem append_cut (w : World) (ao : Option Addr) (g k o m c : Nat) (ty : TypeId) (z : Nat → En) (h : HoldsE w (some ⟨g, 0, none⟩) 16 z) (ho : o = (k + 1) * 9) (hm : k + m = 15) (hao : ao = some ⟨g, o, none⟩ ∨ (m = 0 ∧ ∃ ad, ao = some ad)) :
    ∃ a' c' w', (Builtin.append_ #[22, 22] ty #[.slice (some ⟨g, 0, none⟩) k k, .slice ao m c]).run Try.prog w = .ok (.slice a' 15 c') w' ∧ HoldsE w' a' 15 (cutZ z k) ∧ Below w.heap.size w w' := by
  subst ho
  obtain ⟨i0, hi0, hz0, hz1, hz2⟩ := info_parts wrldrow
  by_cases h0 : m = 0
  · subst h0
    obtain rfl : k = 15 := by omega
    obtain ⟨ad, rfl⟩ : ∃ ad, ao = some ad := by
      rcases hao with h | ⟨_, h⟩
      · exact ⟨_, h⟩
      · exact h
    refine ⟨_, _, w, run_append_nothing w _ _ _ 38 i0 Try.underlying22 hi0 _ 15 15 (Nat.le_refl _) _ (Src.ofSlice w Try.underlying22 _ 0 _ [] (by simp) (fun j u hj => (by simp at hj)) (fun u hu => (by cases hu))), ?_, Below.refl _ _⟩
    exact (h.mono (by decide)).congr (fun i hi => by unfold cutZ; rw [if_pos hi])
  · obtain rfl : ao = some ⟨g, (k + 1) * 9, none⟩ := by
      rcases hao with h | ⟨h, _⟩
      · exact h
      · exact absurd h h0
    have hd := h.drop (s := k + 1) (m := m) (by omega)
    obtain ⟨v', w', hrun, hown, hgrow⟩ := run_append_arg_grows (P := Try.prog) w 22 ty 38 i0 zV 9 56 Try.underlying22 hi0 hz0 hz1 hz2 rfl (by decide) ⟨g, 0, none⟩ k k (rowC z k) (rowC_length z k) (h.mono (by omega)).cells
      ⟨g, (k + 1) * 9, none⟩ m c (rowC (fun i => z (k + 1 + i)) m) (rowC_length _ m) hd.cells (by omega) (by unfold maxLen; omega) (by omega)
    rw [rowC_join (x := cutZ z k) k (fun i hi => by unfold cutZ; rw [if_pos hi]) m (fun i hi => by unfold cutZ; rw [if_neg (by omega), show k + i + 1 = k + 1 + i by omega]), hm] at hown
    obtain ⟨a', c', rfl, _, hH⟩ := OwnR.holds hown
    exact ⟨a', c', w', hrun, hH, (Below.refl _ _).grown hgrow (Nat.le_refl _) (fun k e => by cases e)⟩
/-- The step of such an append. -/
theorem oper_append {P : Program} {o : Oper} {a : Act} {w w' : World} {K : Act → World → Prop} {Q : Exit → Act → World → Prop} (s x : Operand) (t : TypeId) (hop : o.op = Op.call { callee := Callee.builtin Builtin.append, args := #[s, x], argTypes := #[t, t] })
    {v xv v' : Value} (hs : a.eval s = v) (hx : a.eval x = xv) (hrun : (Builtin.append_ #[t, t] o.type #[v, xv]).run P w = .ok v' w') (hK : K (a.put o.dst v') w') : Oper.wp P o a w K Q := by
  unfold Oper.wp
  simp [execOp, hop, resolve, invoke, builtin, hs, hx, hrun, Result.andThen]
  exact hK

set_option maxRecDepth 100000 in
set_option maxHeartbeats 4000000 in
/-- No judge takes nothing. -/
theorem entry_none (w : World) (st : Int) (sd kd dl : Nat) (en : Bool) (id n : Int) (dt : ByteArray) (er : Int) :
    Calls Try.prog 15 #[.pointer none, .agg #[.int .i64 st, .int .u8 (sd : Int), .int .u8 (kd : Int), .int .u8 (dl : Int), .bool en, .int .i64 id, .int .i64 n, .string dt, .int .i64 er]] w fun e w' => e = .returned (.bool false) ∧ Below w.heap.size w w' := by
  have b1 := (Below.refl w.heap.size w).alloc (Nat.le_refl _) (.cells #[.int .i64 st, .int .u8 (sd : Int), .int .u8 (kd : Int), .int .u8 (dl : Int), .bool en, .int .i64 id, .int .i64 n, .string dt, .int .i64 er] 38)
  go_enter Try.func15, Try.ntmps15
  go_upto_region 1 with (fail)
  generalize w.alloc (.cells #[.int .i64 st, .int .u8 (sd : Int), .int .u8 (kd : Int), .int .u8 (dl : Int), .bool en, .int .i64 id, .int .i64 n, .string dt, .int .i64 er] 38) = w1 at *
  refine wp_region_held (S := fun W => Below w.heap.size w W) (by kernel_rfl) ?_
  change wpAnyH _ _ _ _ _ _ _ _ (World.drew _)
  have hS : Below w.heap.size w w1.drew := below_drewN b1 1
  clear b1
  generalize w1.drew = w2 at *
  refine take_atH 0 6 hS rfl rfl (by kernel_rfl) (by kernel_rfl) (by kernel_rfl) (fun _ _ _ h => h) rfl (fun wq hq => by go_simp; first | done | with_reducible rfl) ?_
  simp only [Act.put, List.setIfInBounds_toArray, List.set_cons_zero, List.set_cons_succ]
  refine take_atH 1 7 hS rfl rfl (by kernel_rfl) (by kernel_rfl) (by kernel_rfl) (fun _ _ _ h => h) rfl (fun wq hq => by go_simp; first | done | with_reducible rfl) ?_
  simp only [Act.put, List.setIfInBounds_toArray, List.set_cons_zero, List.set_cons_succ]
  refine take_atH 2 8 hS rfl rfl (by kernel_rfl) (by kernel_rfl) (by kernel_rfl) (fun _ _ _ h => h) rfl (fun wq hq => by go_simp; first | done | with_reducible rfl) ?_
  simp only [Act.put, List.setIfInBounds_toArray, List.set_cons_zero, List.set_cons_succ]
  refine skip_atH 3 9 hS rfl rfl (by kernel_rfl) (by kernel_rfl) (by kernel_rfl) (fun _ _ _ h => h) rfl ?_
  simp only [Act.put, List.setIfInBounds_toArray, List.set_cons_zero, List.set_cons_succ]
  refine skip_atH 4 10 hS rfl rfl (by kernel_rfl) (by kernel_rfl) (by kernel_rfl) (fun _ _ _ h => h) rfl ?_
  simp only [Act.put, List.setIfInBounds_toArray, List.set_cons_zero, List.set_cons_succ]
  refine skip_atH 5 11 hS rfl rfl (by kernel_rfl) (by kernel_rfl) (by kernel_rfl) (fun _ _ _ h => h) rfl ?_
  simp only [Act.put, List.setIfInBounds_toArray, List.set_cons_zero, List.set_cons_succ]
  refine take_atH 6 12 hS rfl rfl (by kernel_rfl) (by kernel_rfl) (by kernel_rfl) (fun _ _ _ h => h) rfl (fun wq hq => by go_simp; first | done | with_reducible rfl) ?_
  simp only [Act.put, List.setIfInBounds_toArray, List.set_cons_zero, List.set_cons_succ]
  refine take_atH 7 13 hS rfl rfl (by kernel_rfl) (by kernel_rfl) (by kernel_rfl) (fun _ _ _ h => h) rfl (fun wq hq => by go_simp; first | done | with_reducible rfl) ?_
  simp only [Act.put, List.setIfInBounds_toArray, List.set_cons_zero, List.set_cons_succ]
  refine skip_atH 8 14 hS rfl rfl (by kernel_rfl) (by kernel_rfl) (by kernel_rfl) (fun _ _ _ h => h) rfl ?_
  simp only [Act.put, List.setIfInBounds_toArray, List.set_cons_zero, List.set_cons_succ]
  refine skip_atH 9 15 hS rfl rfl (by kernel_rfl) (by kernel_rfl) (by kernel_rfl) (fun _ _ _ h => h) rfl ?_
  simp only [Act.put, List.setIfInBounds_toArray, List.set_cons_zero, List.set_cons_succ]
  refine skip_atH 10 16 hS rfl rfl (by kernel_rfl) (by kernel_rfl) (by kernel_rfl) (fun _ _ _ h => h) rfl ?_
  simp only [Act.put, List.setIfInBounds_toArray, List.set_cons_zero, List.set_cons_succ]
  refine skip_atH 11 17 hS rfl rfl (by kernel_rfl) (by kernel_rfl) (by kernel_rfl) (fun _ _ _ h => h) rfl ?_
  simp only [Act.put, List.setIfInBounds_toArray, List.set_cons_zero, List.set_cons_succ]
  refine skip_atH 12 18 hS rfl rfl (by kernel_rfl) (by kernel_rfl) (by kernel_rfl) (fun _ _ _ h => h) rfl ?_
  simp only [Act.put, List.setIfInBounds_toArray, List.set_cons_zero, List.set_cons_succ]
  refine skip_atH 13 19 hS rfl rfl (by kernel_rfl) (by kernel_rfl) (by kernel_rfl) (fun _ _ _ h => h) rfl ?_
  simp only [Act.put, List.setIfInBounds_toArray, List.set_cons_zero, List.set_cons_succ]
  refine skip_atH 14 20 hS rfl rfl (by kernel_rfl) (by kernel_rfl) (by kernel_rfl) (fun _ _ _ h => h) rfl ?_
  simp only [Act.put, List.setIfInBounds_toArray, List.set_cons_zero, List.set_cons_succ]
  refine skip_atH 15 21 hS rfl rfl (by kernel_rfl) (by kernel_rfl) (by kernel_rfl) (fun _ _ _ h => h) rfl ?_
  simp only [Act.put, List.setIfInBounds_toArray, List.set_cons_zero, List.set_cons_succ]
  refine skip_atH 16 22 hS rfl rfl (by kernel_rfl) (by kernel_rfl) (by kernel_rfl) (fun _ _ _ h => h) rfl ?_
  simp only [Act.put, List.setIfInBounds_toArray, List.set_cons_zero, List.set_cons_succ]
  refine skip_atH 17 23 hS rfl rfl (by kernel_rfl) (by kernel_rfl) (by kernel_rfl) (fun _ _ _ h => h) rfl ?_
  simp only [Act.put, List.setIfInBounds_toArray, List.set_cons_zero, List.set_cons_succ]
  refine skip_atH 18 24 hS rfl rfl (by kernel_rfl) (by kernel_rfl) (by kernel_rfl) (fun _ _ _ h => h) rfl ?_
  simp only [Act.put, List.setIfInBounds_toArray, List.set_cons_zero, List.set_cons_succ]
  refine skip_atH 19 25 hS rfl rfl (by kernel_rfl) (by kernel_rfl) (by kernel_rfl) (fun _ _ _ h => h) rfl ?_
  simp only [Act.put, List.setIfInBounds_toArray, List.set_cons_zero, List.set_cons_succ]
  refine skip_atH 20 26 hS rfl rfl (by kernel_rfl) (by kernel_rfl) (by kernel_rfl) (fun _ _ _ h => h) rfl ?_
  simp only [Act.put, List.setIfInBounds_toArray, List.set_cons_zero, List.set_cons_succ]
  refine take_atH 21 27 hS rfl rfl (by kernel_rfl) (by kernel_rfl) (by kernel_rfl) (fun _ _ _ h => h) rfl (fun wq hq => by go_simp; first | done | with_reducible rfl) ?_
  simp only [Act.put, List.setIfInBounds_toArray, List.set_cons_zero, List.set_cons_succ]
  refine wpAnyH_done (by kernel_rfl) ?_ _
  go_wp2
  go_ret
  exact ⟨rfl, hS⟩
end Go.Proofs.Ytkikonknciffiaa
