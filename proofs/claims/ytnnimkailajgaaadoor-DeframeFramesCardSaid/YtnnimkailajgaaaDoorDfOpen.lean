/- What came in: the struct Row, rows of frames, rows of bools. -/
import Derived.Test.YtnnimkailajgaaaDoorDfFeedAll
import Derived.Test.YtnnimkailajgaaaDoorFrame
import Derived.Test.YtnnimkailajgaaaDoorOpenRows
import Derived.Deep.Strs
namespace Go.Proofs.YtnnimkailajgaaaDoor
open Go.Joins Go.ChangeShapes Go.WideShapes Go.RowKit Go.Deep
set_option linter.unusedVariables false
set_option linter.unusedSimpArgs false

/-- A row of frames lies there. -/
def HoldsF (w : World) (a : Option Addr) (n : Nat) (z : Nat → Fr) : Prop := 0 < n → ∃ b o, a = some ⟨b, o, none⟩ ∧ b < w.heap.size ∧ ∀ i, i < n → ∀ j, j < 7 → w.cell? ⟨b, o + (i * 7 + j), none⟩ = (frC (z i))[j]?
def HoldsB (w : World) (a : Option Addr) (n : Nat) (z : Nat → Bool) : Prop := 0 < n → ∃ b o, a = some ⟨b, o, none⟩ ∧ b < w.heap.size ∧ ∀ i, i < n → w.cell? ⟨b, o + i, none⟩ = some (.bool (z i))
section
variable {H : Type} {enc : TypeId × Value → H} {w : World} {base : Nat} {spare : Nat → Bool} {held : Bool}

theorem open_row06 {r : Reach} {b0 : Nat} {v : Value} {d : DataW H} {p : List MemPlace} (hv : Value.okWide Tryd.prog w r b0 23 v) (h : DataW.Trod enc Tryd.prog w base spare held 23 v d p) :
    ∃ (a i : Bool) (n : Int), v = .agg #[.bool a, .bool i, .int .i64 n] ∧ p = [] := by
  obtain ⟨cs, rfl, hsz⟩ := okWide_struct Tryd.underlying23 hv
  obtain ⟨l⟩ := cs
  have hC : Tryd.prog.cellsOf 23 = 3 := by kernel_rfl
  match l, hsz.trans hC with
  | [c0, c1, c2], _ =>
    obtain ⟨fuel, hf⟩ := h
    obtain ⟨y0, y1, y2, n, hx, _, h0, h1, h2⟩ := trod_struct3 Tryd.underlying23 hf
    have k1 : Tryd.prog.cellsOf 4 = 1 := by kernel_rfl
    have k2 : Tryd.prog.cellsOf 3 = 1 := by kernel_rfl
    simp only [k1, k2, Value.cells, List.drop_zero, List.drop_succ_cons, List.take_succ_cons, List.take_zero] at h0 h1 h2
    obtain ⟨x0, rfl, p0⟩ := bool_of h0
    obtain ⟨x1, rfl, p1⟩ := bool_of h1
    obtain ⟨z, e1, e2, hz⟩ := DataW.trod_int Tryd.underlying3 h2
    injection hx with hx1 hx2
    refine ⟨x0, x1, z, by simp_all, ?_⟩
    rw [hx2, p0, p1, e2]
    rfl

theorem frames_open {d : DataW H} {p : List MemPlace} {a : Option Addr} {n c : Nat} (h : DataW.Trod enc Tryd.prog w base spare held 24 (.slice a n c) d p) :
    ∃ z : Nat → Fr, HoldsF w a n z ∧ (n ≤ maxLen ∧ ∀ j, j < n → (z j).d ≤ 255 ∧ (z j).k ≤ 255 ∧ (z j).s ≤ 255 ∧ (z j).r ≤ 255 ∧ (z j).i.size ≤ maxLen) := by
  obtain ⟨hn, hx⟩ := open_rows rfl Tryd.underlying24 Tryd.underlying30 h
  have hC : Tryd.prog.cellsOf 30 = 7 := by kernel_rfl
  rw [hC] at hx
  by_cases h0 : 0 < n
  · obtain ⟨b, o, hab, hel⟩ := hx h0
    obtain ⟨ha, hlt⟩ := hab (by omega)
    have key : ∀ i, ∃ f : Fr, i < n → (∀ j, j < 7 → w.cell? ⟨b, o + (i * 7 + j), none⟩ = (frC f)[j]?) ∧ f.d ≤ 255 ∧ f.k ≤ 255 ∧ f.s ≤ 255 ∧ f.r ≤ 255 ∧ f.i.size ≤ maxLen := by
      intro i
      by_cases hi : i < n
      · obtain ⟨cs, hl, hc, hf⟩ := hel i hi
        match cs, hl with
        | [c0, c1, c2, c3, c4, c5, c6], _ =>
          have k1 : Tryd.prog.cellsOf 4 = 1 := by kernel_rfl
          have k2 : Tryd.prog.cellsOf 5 = 1 := by kernel_rfl
          have k3 : Tryd.prog.cellsOf 9 = 1 := by kernel_rfl
          obtain ⟨n0, y0, g0⟩ := hf 0 _ rfl
          obtain ⟨n1, y1, g1⟩ := hf 1 _ rfl
          obtain ⟨n2, y2, g2⟩ := hf 2 _ rfl
          obtain ⟨n3, y3, g3⟩ := hf 3 _ rfl
          obtain ⟨n4, y4, g4⟩ := hf 4 _ rfl
          obtain ⟨n5, y5, g5⟩ := hf 5 _ rfl
          obtain ⟨n6, y6, g6⟩ := hf 6 _ rfl
          replace g0 : DataW.trod enc Tryd.prog w base spare held n0 5 (([c0, c1, c2, c3, c4, c5, c6].drop 0).take (Tryd.prog.cellsOf 5)) = some y0 := g0
          replace g1 : DataW.trod enc Tryd.prog w base spare held n1 4 (([c0, c1, c2, c3, c4, c5, c6].drop 1).take (Tryd.prog.cellsOf 4)) = some y1 := g1
          replace g2 : DataW.trod enc Tryd.prog w base spare held n2 5 (([c0, c1, c2, c3, c4, c5, c6].drop 2).take (Tryd.prog.cellsOf 5)) = some y2 := g2
          replace g3 : DataW.trod enc Tryd.prog w base spare held n3 4 (([c0, c1, c2, c3, c4, c5, c6].drop 3).take (Tryd.prog.cellsOf 4)) = some y3 := g3
          replace g4 : DataW.trod enc Tryd.prog w base spare held n4 5 (([c0, c1, c2, c3, c4, c5, c6].drop 4).take (Tryd.prog.cellsOf 5)) = some y4 := g4
          replace g5 : DataW.trod enc Tryd.prog w base spare held n5 5 (([c0, c1, c2, c3, c4, c5, c6].drop 5).take (Tryd.prog.cellsOf 5)) = some y5 := g5
          replace g6 : DataW.trod enc Tryd.prog w base spare held n6 9 (([c0, c1, c2, c3, c4, c5, c6].drop 6).take (Tryd.prog.cellsOf 9)) = some y6 := g6
          rw [k1] at g1 g3
          rw [k2] at g0 g2 g4 g5
          rw [k3] at g6
          replace g0 : DataW.trod enc Tryd.prog w base spare held n0 5 [c0] = some y0 := g0
          replace g1 : DataW.trod enc Tryd.prog w base spare held n1 4 [c1] = some y1 := g1
          replace g2 : DataW.trod enc Tryd.prog w base spare held n2 5 [c2] = some y2 := g2
          replace g3 : DataW.trod enc Tryd.prog w base spare held n3 4 [c3] = some y3 := g3
          replace g4 : DataW.trod enc Tryd.prog w base spare held n4 5 [c4] = some y4 := g4
          replace g5 : DataW.trod enc Tryd.prog w base spare held n5 5 [c5] = some y5 := g5
          replace g6 : DataW.trod enc Tryd.prog w base spare held n6 9 [c6] = some y6 := g6
          obtain ⟨x0, rfl, p0, b0⟩ := u8_of g0
          obtain ⟨x1, rfl, p1⟩ := bool_of g1
          obtain ⟨x2, rfl, p2, b2⟩ := u8_of g2
          obtain ⟨x3, rfl, p3⟩ := bool_of g3
          obtain ⟨x4, rfl, p4, b4⟩ := u8_of g4
          obtain ⟨x5, rfl, p5, b5⟩ := u8_of g5
          obtain ⟨x6, rfl, p6, b6⟩ := str_of g6
          exact ⟨⟨x0, x1, x2, x3, x4, x5, x6⟩, fun _ => ⟨hc, b0, b2, b4, b5, b6⟩⟩
      · exact ⟨zf, fun h => absurd h hi⟩
    obtain ⟨z, hz⟩ := Classical.axiomOfChoice key
    exact ⟨z, fun _ => ⟨b, o, ha, hlt, fun i hi => (hz i hi).1⟩, hn, fun j hj => (hz j hj).2⟩
  · exact ⟨fun _ => zf, fun h => absurd h h0, hn, fun j hj => by omega⟩

theorem bools_open {d : DataW H} {p : List MemPlace} {a : Option Addr} {n c : Nat} (h : DataW.Trod enc Tryd.prog w base spare held 25 (.slice a n c) d p) :
    ∃ z : Nat → Bool, HoldsB w a n z ∧ n ≤ maxLen := by
  obtain ⟨fuel, hf⟩ := h
  have k1 : Tryd.prog.cellsOf 4 = 1 := by kernel_rfl
  rcases open_slice1 Tryd.underlying25 k1 hf with ⟨hcs, _⟩ | ⟨a', len', cap', m, n', V, D, Pl, hcs, _, hl, hm, hmm, _, hcell⟩
  · simp [Value.cells] at hcs
    obtain ⟨_, rfl, _⟩ := hcs
    exact ⟨fun _ => false, fun h => by omega, by omega⟩
  · simp [Value.cells] at hcs
    obtain ⟨rfl, rfl, rfl⟩ := hcs
    have hlen : n ≤ m := by rw [hmm]; split <;> omega
    refine ⟨fun j => boolOf (V j), fun h0 => ?_, by omega⟩
    have h1 := (hcell 0 (by omega)).1
    have h2 : a'.add 0 = a' := by unfold Addr.add; simp
    rw [h2] at h1
    have h3 := plain_of_cell h1
    refine ⟨a'.block, a'.off, congrArg some h3, World.block_lt_of_cell? w a' h1, fun j hj => ?_⟩
    obtain ⟨h4, h5⟩ := hcell j (by omega)
    obtain ⟨x, hx, _⟩ := bool_of h5
    rw [h3, Addr.add_lit] at h4
    rw [h4]
    dsimp only
    rw [hx]
    rfl
end
end Go.Proofs.YtnnimkailajgaaaDoor
