/- Split: a message's pieces, in a row of the call's own. -/
import Derived.Test.YtkgdnpodohpppaaClPieces
import Derived.Maps.AppendAt
namespace Go.Proofs.Ytkgdnpodohpppaa
open Go.RowKit
set_option linter.unusedVariables false
set_option linter.unusedSimpArgs false
attribute [local go_sem] Oper.semAt_some

theorem strow : (Try.prog.info? 9).map (fun i => (i.zero, i.size, i.bytes)) = some (some (.string ⟨#[]⟩), 1, 16) := by kernel_rfl

def strs (f : Nat → ByteArray) (n : Nat) : List Value := (List.range n).map fun i => .string (f i)
theorem strs_length (f : Nat → ByteArray) (n : Nat) : (strs f n).length = n := by simp [strs]
theorem strs_succ (f : Nat → ByteArray) (n : Nat) : strs f (n + 1) = strs f n ++ [.string (f n)] := by simp [strs, List.range_succ]

theorem ownsRow_base {w : World} {B C : Nat} {e : TypeId} {z n : Nat} {v : Value} {xs : List Value} (h : w.ownsRow B e z v n xs) (hC : C ≤ B) : w.ownsRow C e z v n xs := by
  refine ⟨h.1, ?_⟩
  rcases h.2 with h0 | ⟨g, cap, cur, e1, e2, rest⟩
  · exact .inl h0
  · exact .inr ⟨g, cap, cur, e1, Nat.le_trans hC e2, rest⟩
theorem own_ge {w : World} {B : Nat} {e : TypeId} {z n : Nat} {v : Value} {xs : List Value} (h : w.ownsRow B e z v n xs) {b : Nat} (hb : b < B) : v.ownBlock ≠ some b := by
  rcases h.2 with ⟨rfl, _⟩ | ⟨g, cap, cur, rfl, hg, _⟩
  · simp [Value.ownBlock]
  · intro he
    have : g = b := by simpa [Value.ownBlock] using he
    omega

theorem pieces_in (s : ByteArray) (z : Int) (w : World) :
    CallsIn Fence.wide 3 Try.prog 16 #[.string s, .int .i64 z] w fun e w' => e = .returned (.func (.func 18) #[] #[.pointer (some ⟨w.heap.size, 0, none⟩), .pointer (some ⟨w.heap.size + 1, 0, none⟩)]) ∧
      w' = (w.alloc (.cells #[.string s] 9)).alloc (.cells #[.int .i64 z] 3) := by
  refine callsIn_of_wp Try.func16 rfl trivial ?_ rfl
  simp only [Try.ntmps16, List.size_toArray, List.length_cons, List.length_nil, Nat.reduceAdd, Nat.reduceSub, Array.replicate_succ, Array.replicate_zero, List.push_toArray, List.append_toArray, List.nil_append, List.cons_append]
  gi_wp2
  go_ret
  exact ⟨rfl, rfl⟩

theorem pcN_le (L size : Nat) (h : L ≤ 1000000) : pcN L size ≤ 1000001 := by
  unfold pcN
  split
  · omega
  · rcases Nat.eq_zero_or_pos size with rfl | hp
    · simp
    · rw [Nat.le_iff_lt_add_one, Nat.div_lt_iff_lt_mul hp]
      have : L + size - 1 < 1000001 * size + size := by
        have := Nat.le_mul_of_pos_right 1000001 hp
        omega
      omega

theorem appended2 {W w1 : World} {n₀ n1 B : Nat} {t e : TypeId} {size : Nat} {v v' : Value} {k m : Nat} {xs ys : List Value} {tmp : Obj}
    (hv : Boxed W B t v) (hte : t ≠ e) (hrow : W.ownsRow n1 e size v k xs) (hn₀ : n₀ ≤ W.heap.size) (hB : n₀ ≤ B) (h01 : n₀ ≤ n1) (hown' : w1.ownsRow n1 e size v' m ys) (hgrow : (W.alloc tmp).grownBy w1 v.ownBlock) :
    Boxed w1 B t v ∧ Boxed (w1.setCell ⟨B, 0, none⟩ v') B t v' ∧ (w1.setCell ⟨B, 0, none⟩ v').ownsRow n1 e size v' m ys ∧ KeepsOthers W (w1.setCell ⟨B, 0, none⟩ v') ∧ Below n₀ W (w1.setCell ⟨B, 0, none⟩ v') := by
  obtain ⟨h1, h2, _, h4, h5⟩ := hv.appended hte (ownsRow_base hrow h01) hn₀ hB (ownsRow_base hown' h01) hgrow
  exact ⟨h1, h2, hown'.kept (grownBy_setCell' w1 B v') (.inr (h1.not_row hte hown').symm), h4, h5⟩

/-- What the loop keeps: the variable's box, the row of the pieces that have come, and that nothing older has turned. -/
def SplitI (w : World) (C : Nat) (f : Nat → ByteArray) (k : Nat) (W : World) : Prop :=
  (∃ v, Boxed W w.heap.size 23 v ∧ W.ownsRow C 9 1 v k (strs f k)) ∧ Below w.heap.size w W ∧ C ≤ W.heap.size
theorem splitI_zero (w w3 : World) (sz : w3.heap.size = w.heap.size + 3) (f : Nat → ByteArray) (bl : Boxed w3 w.heap.size 23 (.slice none 0 0)) (bw : Below w.heap.size w w3) : SplitI w (w.heap.size + 3) f 0 w3 :=
  ⟨⟨_, bl, World.ownsRow_nil _ _ _ _⟩, bw, Nat.le_of_eq sz.symm⟩
theorem splitI_keep (w w3 : World) (sz : w3.heap.size = w.heap.size + 3) (f : Nat → ByteArray) (k : Nat) (A B : World) (row : Option Nat) (h : SplitI w (w.heap.size + 3) f k A) (hg : A.grownBy B row)
    (hr : ∀ r, row = some r → Mine (w.heap.size + 1) (w.heap.size + 1 + 1) r ∨ (w3.heap.size ≤ r ∧ ∃ o : Obj, A.heap[r]? = some o ∧ o.isCells = false)) : SplitI w (w.heap.size + 3) f k B := by
  obtain ⟨⟨v, hv, hrow⟩, hB, hC⟩ := h
  refine ⟨⟨v, hv.kept hg fun e => ?_, hrow.kept hg ?_⟩, hB.grown hg hB.size fun r e => ?_, Nat.le_trans hC hg.size⟩
  · rcases hr _ e.symm with (e1 | e1) | ⟨e1, _⟩ <;> omega
  · rcases hrow.2 with ⟨rfl, _⟩ | ⟨g, cap, cur, rfl, hg1, hgb, _⟩
    · exact .inl rfl
    · refine .inr fun e => ?_
      have e' : some g = row := by simpa [Value.ownBlock] using e
      rcases hr _ e'.symm with (e1 | e1) | ⟨_, o, ho, hc⟩
      · omega
      · omega
      · rw [hgb] at ho; cases ho; cases hc
  · rcases hr _ e with (e1 | e1) | ⟨e1, _⟩ <;> omega

/-- What Split leaves: a row of its own with the pieces. -/
def SplitOk (s : ByteArray) (size : Nat) (w : World) (e : Ending) (w' : World) : Prop :=
  ∃ v, e = .returned (.tuple #[v, .int .i64 0]) ∧ w'.ownsRow w.heap.size 9 1 v (pcN s.size size) (strs (pc s size) (pcN s.size size)) ∧ Below w.heap.size w w'

set_option maxHeartbeats 1000000 in
theorem split_no (s : ByteArray) (n1 : Int) (w : World) (h : n1 < 2) :
    Calls Try.prog 10 #[.string s, .int .i64 n1] w fun e w' => e = .returned (.tuple #[.slice none 0 0, .int .i64 2]) ∧ w = w' := by
  go_enter Try.func10, Try.ntmps10
  go_wp2
  go_ret2
  exact ⟨rfl, rfl⟩

set_option maxHeartbeats 1000000 in
theorem split_ok (s : ByteArray) (n1 : Int) (size : Nat) (w : World) (h : 2 ≤ n1) (hn : n1 ≤ 9223372036854775807) (hz : (size : Int) = min n1 128 - 1) (hs : s.size ≤ 1000000) :
    Calls Try.prog 10 #[.string s, .int .i64 n1] w (SplitOk s size w) := by
  refine (callsIn_wide (n := 4)).1 ?_
  refine callsIn_of_wp_marks Try.func10 rfl trivial ?_ rfl
  simp only [Try.ntmps10, List.size_toArray, List.length_cons, List.length_nil, Nat.reduceAdd, Nat.reduceSub, Array.replicate_succ, Array.replicate_zero, List.push_toArray, List.append_toArray, List.nil_append, List.cons_append]
  have hlt : ¬ n1 < 2 := by omega
  obtain ⟨i0, hi, hz0, hz1, hz2⟩ := info_parts strow
  have hN := pcN_le s.size size hs
  by_cases hc : n1 ≤ 128
  case' pos =>
    obtain rfl : n1 = (size : Int) + 1 := by omega
    have h1 : 1 ≤ size := by omega
    have h2 : size ≤ 127 := by omega
    clear hz
    have e1 : (size : Int) + 1 - 1 = size := by omega
    gi_wp2_with (refine ⟨trivial, ?_⟩; gi_at_call 16; refine (pieces_in _ _ _).mono ?_; rintro e w' ⟨rfl, rfl⟩)
    clear e1 hlt hc h hn
    generalize Value.int IntKind.i64 ((size : Int) + 1) = X
  case' neg =>
    have h1 : 1 ≤ size := by omega
    have h2 : size ≤ 127 := by omega
    have e1 : (127 : Int) = size := by omega
    have E1 := hide e1
    clear hz e1
    gi_wp2_with (refine ⟨trivial, ?_⟩; gi_at_call 16; refine (pieces_in _ _ _).mono ?_; rintro e w' ⟨rfl, rfl⟩)
    rw [E1.out]
    clear E1 hlt hc h hn
    generalize Value.int IntKind.i64 n1 = X
  all_goals
    have bl : Boxed (((w.alloc (.cells #[.slice none 0 0] 23)).alloc (.cells #[.string s] 9)).alloc (.cells #[.int .i64 (size : Int)] 3)) w.heap.size 23 (.slice none 0 0) := ((Boxed.new w _ _).alloc _).alloc _
    have bm : Boxed (((w.alloc (.cells #[.slice none 0 0] 23)).alloc (.cells #[.string s] 9)).alloc (.cells #[.int .i64 (size : Int)] 3)) (w.heap.size + 1) 9 (.string s) := by
      have := (Boxed.new (w.alloc (.cells #[.slice none 0 0] 23)) 9 (.string s)).alloc (.cells #[.int .i64 (size : Int)] 3)
      rwa [World.size_alloc] at this
    have bz : Boxed (((w.alloc (.cells #[.slice none 0 0] 23)).alloc (.cells #[.string s] 9)).alloc (.cells #[.int .i64 (size : Int)] 3)) (w.heap.size + 1 + 1) 3 (.int .i64 (size : Int)) := by
      have := Boxed.new ((w.alloc (.cells #[.slice none 0 0] 23)).alloc (.cells #[.string s] 9)) 3 (.int .i64 (size : Int))
      rwa [World.size_alloc, World.size_alloc] at this
    have bw : Below w.heap.size w (((w.alloc (.cells #[.slice none 0 0] 23)).alloc (.cells #[.string s] 9)).alloc (.cells #[.int .i64 (size : Int)] 3)) :=
      (((Below.refl _ w).alloc (Nat.le_refl _) _).alloc (by simp) _).alloc (by simp; omega) _
    have sz : (((w.alloc (.cells #[.slice none 0 0] 23)).alloc (.cells #[.string s] 9)).alloc (.cells #[.int .i64 (size : Int)] 3)).heap.size = w.heap.size + 3 := by simp
    generalize (((w.alloc (.cells #[.slice none 0 0] 23)).alloc (.cells #[.string s] 9)).alloc (.cells #[.int .i64 (size : Int)] 3)) = w3 at *
    refine wpIn_range_mine (gf := 18) (lb := #[.pointer (some ⟨w.heap.size + 1, 0, none⟩), .pointer (some ⟨w.heap.size + 1 + 1, 0, none⟩)]) rfl (enters_of Try.func18 (by kernel_rfl) rfl)
      (M := Mine (w.heap.size + 1) (w.heap.size + 1 + 1)) (fun b hb => by rcases hb with rfl | rfl <;> omega)
      (pieces1_mine (w.heap.size + 1) (w.heap.size + 1 + 1) s size h1 h2 hs (by omega) w3 bm bz) (fun _ => rfl)
      (SplitI w (w.heap.size + 3) (pc s size)) (splitI_keep w w3 sz (pc s size)) (splitI_zero w w3 sz _ bl bw) ?_ ?_ ?_ ?_
    rotate_left
    · intro l k W K hK
      gi_wp2
      exact hK
    · rintro l k W ⟨⟨v, hv, hrow⟩, hB, hC⟩ hk
      have c1 := hv.cell
      gi_wp2_with (gi_at_builtin; refine wpListIn_append_own _ rfl _ _ 23 rfl (w.heap.size + 3) 9 i0 (.string ⟨#[]⟩) 1 16 Try.underlying23 hi hz0 hz1 hz2 rfl (by decide) _ _ _ rfl (hrow.alloc _) ⟨W.heap.size, 0, none⟩ 1 1 [.string (pc s size k)] rfl rfl (cell_one_new _ _ _) (by simp [Value.oneCell']) (by unfold maxLen; omega) (by omega) (by simp; omega) ?_; intro v' w1 hown' hgrow _; obtain ⟨g', cap', rfl⟩ := ownsRow_succ hown'; obtain ⟨hv1, hv2, hr2, hk2, hb2⟩ := appended2 hv (by decide) hrow hB.size (Nat.le_refl _) (by omega) hown' hgrow; have hc1 := hv1.cell; have hf1 := hv1.frozen)
      refine ⟨hk2.from _, ?_, ⟨⟨_, hv2, by rw [strs_succ]; exact hr2⟩, hB.trans hb2, ?_⟩⟩
      · intro b hb
        have hbl : b < w.heap.size + 3 ∧ b ≠ w.heap.size := by rcases hb with rfl | rfl <;> omega
        refine (Below.heap_setCell _ _ _ b hbl.2).trans ((hgrow.block b (by simp; omega) (own_ge hrow hbl.1).symm).trans (Below.heap_alloc _ _ _ (by omega)))
      · have := hgrow.size
        simp at this ⊢
        omega
    · rintro D W hD ⟨⟨v, hv, hrow⟩, hB, hC⟩ hK
      have c1 := hv.cell
      gi_wp2
      refine ⟨by simp, .inl ⟨_, _, rfl, run_takeDeferred hK, ?_⟩⟩
      refine ⟨_, results_tmp2 rfl _ _ _, v, rfl, ownsRow_base (ownsRow_putObj hrow _ hK rfl) (by omega), ?_⟩
      exact hB.grown (grownBy_putObj' _ _ _) hB.size (fun r e => by cases e; omega)

end Go.Proofs.Ytkgdnpodohpppaa
