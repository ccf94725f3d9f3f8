/- What came in: rows of entries and of acts. -/
import Derived.Test.YtkikonknciffiaaHsAcc
import Derived.Test.YtkikonknciffiaaOpenRows
import Derived.Lib.SmallJoins
import Derived.OpenShut
import Derived.SliceStrings
namespace Go.Proofs.Ytkikonknciffiaa
open Go.Joins Go.ChangeShapes Go.WideShapes Go.RowKit Go.Deep
set_option linter.unusedVariables false
set_option linter.unusedSimpArgs false

/-- An act. -/
structure Ac where
  what : Nat
  side : Nat
  kind : Nat
  dlci : Nat
  n : Int
  data : ByteArray
def zA : Ac := ⟨0, 0, 0, 0, 0, ⟨#[]⟩⟩
def acA (e : Ac) : Array Value := #[.int .u8 (e.what : Int), .int .u8 (e.side : Int), .int .u8 (e.kind : Int), .int .u8 (e.dlci : Int), .int .i64 e.n, .string e.data]
/-- A row of acts lies there. -/
def HoldsA (w : World) (a : Option Addr) (n : Nat) (z : Nat → Ac) : Prop := 0 < n → ∃ b o, a = some ⟨b, o, none⟩ ∧ b < w.heap.size ∧ ∀ i, i < n → ∀ j, j < 6 → w.cell? ⟨b, o + (i * 6 + j), none⟩ = (acA (z i))[j]?
section
variable {H : Type} {enc : TypeId × Value → H} {w : World} {base : Nat} {spare : Nat → Bool} {held : Bool}
theorem u8_of {n : Nat} {v : Value} {y : DataW H × List MemPlace} (h : DataW.trod enc Try.prog w base spare held n 5 [v] = some y) : ∃ x : Nat, v = .int .u8 (x : Int) ∧ y.2 = [] ∧ x ≤ 255 := by
  obtain ⟨z, e1, e2, hz⟩ := DataW.trod_int Try.underlying5 h
  obtain ⟨b1, b2⟩ := bounds_u8 hz
  obtain ⟨x, rfl⟩ := Int.eq_ofNat_of_zero_le b1
  exact ⟨x, by simpa using e1, by rw [e2], by omega⟩
theorem int_of {n : Nat} {v : Value} {y : DataW H × List MemPlace} (h : DataW.trod enc Try.prog w base spare held n 3 [v] = some y) : ∃ x : Int, v = .int .i64 x ∧ y.2 = [] ∧ -9223372036854775808 ≤ x ∧ x ≤ 9223372036854775807 := by
  obtain ⟨z, e1, e2, hz⟩ := DataW.trod_int Try.underlying3 h
  obtain ⟨b1, b2⟩ := bounds_i64 hz
  exact ⟨z, by simpa using e1, by rw [e2], by omega, by omega⟩
theorem err_of {n : Nat} {v : Value} {y : DataW H × List MemPlace} (h : DataW.trod enc Try.prog w base spare held n 34 [v] = some y) : ∃ x : Int, v = .int .i64 x ∧ y.2 = [] ∧ -9223372036854775808 ≤ x ∧ x ≤ 9223372036854775807 := by
  obtain ⟨z, e1, e2, hz⟩ := DataW.trod_int Try.underlying34 h
  obtain ⟨b1, b2⟩ := bounds_i64 hz
  exact ⟨z, by simpa using e1, by rw [e2], by omega, by omega⟩
theorem bool_of {n : Nat} {v : Value} {y : DataW H × List MemPlace} (h : DataW.trod enc Try.prog w base spare held n 4 [v] = some y) : ∃ x : Bool, v = .bool x ∧ y.2 = [] := by
  obtain ⟨x, e1, e2⟩ := DataW.trod_bool Try.underlying4 h
  exact ⟨x, by simpa using e1, by rw [e2]⟩
theorem str_of {n : Nat} {v : Value} {y : DataW H × List MemPlace} (h : DataW.trod enc Try.prog w base spare held n 9 [v] = some y) : ∃ x : ByteArray, v = .string x ∧ y.2 = [] ∧ x.size ≤ maxLen := by
  obtain ⟨x, e1, e2, hz⟩ := DataW.trod_string Try.underlying9 h
  exact ⟨x, by simpa using e1, by rw [e2], hz⟩

theorem entries_open {d : DataW H} {p : List MemPlace} {a : Option Addr} {n c : Nat} (h : DataW.Trod enc Try.prog w base spare held 22 (.slice a n c) d p) :
    ∃ z : Nat → En, HoldsE w a n z ∧ (n ≤ maxLen ∧ ∀ j, j < n → -9223372036854775808 ≤ (z j).step ∧ (z j).step ≤ 9223372036854775807 ∧ (z j).side ≤ 255 ∧ (z j).kind ≤ 255 ∧ (z j).dlci ≤ 255 ∧ -9223372036854775808 ≤ (z j).id ∧ (z j).id ≤ 9223372036854775807 ∧ -9223372036854775808 ≤ (z j).n ∧ (z j).n ≤ 9223372036854775807 ∧ (z j).data.size ≤ maxLen ∧ -9223372036854775808 ≤ (z j).err ∧ (z j).err ≤ 9223372036854775807) := by
  obtain ⟨hn, hx⟩ := open_rows rfl Try.underlying22 Try.underlying38 h
  have hC : Try.prog.cellsOf 38 = 9 := by kernel_rfl
  rw [hC] at hx
  by_cases h0 : 0 < n
  · obtain ⟨b, o, hab, hel⟩ := hx h0
    obtain ⟨ha, hlt⟩ := hab (by omega)
    have key : ∀ i, ∃ f : En, i < n → (∀ j, j < 9 → w.cell? ⟨b, o + (i * 9 + j), none⟩ = (enA f)[j]?) ∧ -9223372036854775808 ≤ f.step ∧ f.step ≤ 9223372036854775807 ∧ f.side ≤ 255 ∧ f.kind ≤ 255 ∧ f.dlci ≤ 255 ∧ -9223372036854775808 ≤ f.id ∧ f.id ≤ 9223372036854775807 ∧ -9223372036854775808 ≤ f.n ∧ f.n ≤ 9223372036854775807 ∧ f.data.size ≤ maxLen ∧ -9223372036854775808 ≤ f.err ∧ f.err ≤ 9223372036854775807 := by
      intro i
      by_cases hi : i < n
      · obtain ⟨cs, hl, hc, hf⟩ := hel i hi
        match cs, hl with
        | [c0, c1, c2, c3, c4, c5, c6, c7, c8], _ =>
          have k0 : Try.prog.cellsOf 3 = 1 := by kernel_rfl
          obtain ⟨n0, y0, g0⟩ := hf 0 _ rfl
          replace g0 : DataW.trod enc Try.prog w base spare held n0 3 (([c0, c1, c2, c3, c4, c5, c6, c7, c8].drop 0).take (Try.prog.cellsOf 3)) = some y0 := g0
          rw [k0] at g0
          replace g0 : DataW.trod enc Try.prog w base spare held n0 3 [c0] = some y0 := g0
          have k1 : Try.prog.cellsOf 5 = 1 := by kernel_rfl
          obtain ⟨n1, y1, g1⟩ := hf 1 _ rfl
          replace g1 : DataW.trod enc Try.prog w base spare held n1 5 (([c0, c1, c2, c3, c4, c5, c6, c7, c8].drop 1).take (Try.prog.cellsOf 5)) = some y1 := g1
          rw [k1] at g1
          replace g1 : DataW.trod enc Try.prog w base spare held n1 5 [c1] = some y1 := g1
          have k2 : Try.prog.cellsOf 5 = 1 := by kernel_rfl
          obtain ⟨n2, y2, g2⟩ := hf 2 _ rfl
          replace g2 : DataW.trod enc Try.prog w base spare held n2 5 (([c0, c1, c2, c3, c4, c5, c6, c7, c8].drop 2).take (Try.prog.cellsOf 5)) = some y2 := g2
          rw [k2] at g2
          replace g2 : DataW.trod enc Try.prog w base spare held n2 5 [c2] = some y2 := g2
          have k3 : Try.prog.cellsOf 5 = 1 := by kernel_rfl
          obtain ⟨n3, y3, g3⟩ := hf 3 _ rfl
          replace g3 : DataW.trod enc Try.prog w base spare held n3 5 (([c0, c1, c2, c3, c4, c5, c6, c7, c8].drop 3).take (Try.prog.cellsOf 5)) = some y3 := g3
          rw [k3] at g3
          replace g3 : DataW.trod enc Try.prog w base spare held n3 5 [c3] = some y3 := g3
          have k4 : Try.prog.cellsOf 4 = 1 := by kernel_rfl
          obtain ⟨n4, y4, g4⟩ := hf 4 _ rfl
          replace g4 : DataW.trod enc Try.prog w base spare held n4 4 (([c0, c1, c2, c3, c4, c5, c6, c7, c8].drop 4).take (Try.prog.cellsOf 4)) = some y4 := g4
          rw [k4] at g4
          replace g4 : DataW.trod enc Try.prog w base spare held n4 4 [c4] = some y4 := g4
          have k5 : Try.prog.cellsOf 3 = 1 := by kernel_rfl
          obtain ⟨n5, y5, g5⟩ := hf 5 _ rfl
          replace g5 : DataW.trod enc Try.prog w base spare held n5 3 (([c0, c1, c2, c3, c4, c5, c6, c7, c8].drop 5).take (Try.prog.cellsOf 3)) = some y5 := g5
          rw [k5] at g5
          replace g5 : DataW.trod enc Try.prog w base spare held n5 3 [c5] = some y5 := g5
          have k6 : Try.prog.cellsOf 3 = 1 := by kernel_rfl
          obtain ⟨n6, y6, g6⟩ := hf 6 _ rfl
          replace g6 : DataW.trod enc Try.prog w base spare held n6 3 (([c0, c1, c2, c3, c4, c5, c6, c7, c8].drop 6).take (Try.prog.cellsOf 3)) = some y6 := g6
          rw [k6] at g6
          replace g6 : DataW.trod enc Try.prog w base spare held n6 3 [c6] = some y6 := g6
          have k7 : Try.prog.cellsOf 9 = 1 := by kernel_rfl
          obtain ⟨n7, y7, g7⟩ := hf 7 _ rfl
          replace g7 : DataW.trod enc Try.prog w base spare held n7 9 (([c0, c1, c2, c3, c4, c5, c6, c7, c8].drop 7).take (Try.prog.cellsOf 9)) = some y7 := g7
          rw [k7] at g7
          replace g7 : DataW.trod enc Try.prog w base spare held n7 9 [c7] = some y7 := g7
          have k8 : Try.prog.cellsOf 34 = 1 := by kernel_rfl
          obtain ⟨n8, y8, g8⟩ := hf 8 _ rfl
          replace g8 : DataW.trod enc Try.prog w base spare held n8 34 (([c0, c1, c2, c3, c4, c5, c6, c7, c8].drop 8).take (Try.prog.cellsOf 34)) = some y8 := g8
          rw [k8] at g8
          replace g8 : DataW.trod enc Try.prog w base spare held n8 34 [c8] = some y8 := g8
          obtain ⟨x0, rfl, p0, b0, e0⟩ := int_of g0
          obtain ⟨x1, rfl, p1, b1⟩ := u8_of g1
          obtain ⟨x2, rfl, p2, b2⟩ := u8_of g2
          obtain ⟨x3, rfl, p3, b3⟩ := u8_of g3
          obtain ⟨x4, rfl, p4⟩ := bool_of g4
          obtain ⟨x5, rfl, p5, b5, e5⟩ := int_of g5
          obtain ⟨x6, rfl, p6, b6, e6⟩ := int_of g6
          obtain ⟨x7, rfl, p7, b7⟩ := str_of g7
          obtain ⟨x8, rfl, p8, b8, e8⟩ := err_of g8
          exact ⟨⟨x0, x1, x2, x3, x4, x5, x6, x7, x8⟩, fun _ => ⟨fun j hj => by rw [hc j hj, ← List.getElem?_toArray]; rfl, b0, e0, b1, b2, b3, b5, e5, b6, e6, b7, b8, e8⟩⟩
      · exact ⟨zE, fun h => absurd h hi⟩
    obtain ⟨z, hz⟩ := Classical.axiomOfChoice key
    exact ⟨z, fun _ => ⟨b, o, ha, hlt, fun i hi => (hz i hi).1⟩, hn, fun j hj => (hz j hj).2⟩
  · exact ⟨fun _ => zE, fun h => absurd h h0, hn, fun j hj => by omega⟩

theorem acts_open {d : DataW H} {p : List MemPlace} {a : Option Addr} {n c : Nat} (h : DataW.Trod enc Try.prog w base spare held 39 (.slice a n c) d p) :
    ∃ z : Nat → Ac, HoldsA w a n z ∧ (n ≤ maxLen ∧ ∀ j, j < n → (z j).what ≤ 255 ∧ (z j).side ≤ 255 ∧ (z j).kind ≤ 255 ∧ (z j).dlci ≤ 255 ∧ -9223372036854775808 ≤ (z j).n ∧ (z j).n ≤ 9223372036854775807 ∧ (z j).data.size ≤ maxLen) := by
  obtain ⟨hn, hx⟩ := open_rows rfl Try.underlying39 Try.underlying52 h
  have hC : Try.prog.cellsOf 52 = 6 := by kernel_rfl
  rw [hC] at hx
  by_cases h0 : 0 < n
  · obtain ⟨b, o, hab, hel⟩ := hx h0
    obtain ⟨ha, hlt⟩ := hab (by omega)
    have key : ∀ i, ∃ f : Ac, i < n → (∀ j, j < 6 → w.cell? ⟨b, o + (i * 6 + j), none⟩ = (acA f)[j]?) ∧ f.what ≤ 255 ∧ f.side ≤ 255 ∧ f.kind ≤ 255 ∧ f.dlci ≤ 255 ∧ -9223372036854775808 ≤ f.n ∧ f.n ≤ 9223372036854775807 ∧ f.data.size ≤ maxLen := by
      intro i
      by_cases hi : i < n
      · obtain ⟨cs, hl, hc, hf⟩ := hel i hi
        match cs, hl with
        | [c0, c1, c2, c3, c4, c5], _ =>
          have k0 : Try.prog.cellsOf 5 = 1 := by kernel_rfl
          obtain ⟨n0, y0, g0⟩ := hf 0 _ rfl
          replace g0 : DataW.trod enc Try.prog w base spare held n0 5 (([c0, c1, c2, c3, c4, c5].drop 0).take (Try.prog.cellsOf 5)) = some y0 := g0
          rw [k0] at g0
          replace g0 : DataW.trod enc Try.prog w base spare held n0 5 [c0] = some y0 := g0
          have k1 : Try.prog.cellsOf 5 = 1 := by kernel_rfl
          obtain ⟨n1, y1, g1⟩ := hf 1 _ rfl
          replace g1 : DataW.trod enc Try.prog w base spare held n1 5 (([c0, c1, c2, c3, c4, c5].drop 1).take (Try.prog.cellsOf 5)) = some y1 := g1
          rw [k1] at g1
          replace g1 : DataW.trod enc Try.prog w base spare held n1 5 [c1] = some y1 := g1
          have k2 : Try.prog.cellsOf 5 = 1 := by kernel_rfl
          obtain ⟨n2, y2, g2⟩ := hf 2 _ rfl
          replace g2 : DataW.trod enc Try.prog w base spare held n2 5 (([c0, c1, c2, c3, c4, c5].drop 2).take (Try.prog.cellsOf 5)) = some y2 := g2
          rw [k2] at g2
          replace g2 : DataW.trod enc Try.prog w base spare held n2 5 [c2] = some y2 := g2
          have k3 : Try.prog.cellsOf 5 = 1 := by kernel_rfl
          obtain ⟨n3, y3, g3⟩ := hf 3 _ rfl
          replace g3 : DataW.trod enc Try.prog w base spare held n3 5 (([c0, c1, c2, c3, c4, c5].drop 3).take (Try.prog.cellsOf 5)) = some y3 := g3
          rw [k3] at g3
          replace g3 : DataW.trod enc Try.prog w base spare held n3 5 [c3] = some y3 := g3
          have k4 : Try.prog.cellsOf 3 = 1 := by kernel_rfl
          obtain ⟨n4, y4, g4⟩ := hf 4 _ rfl
          replace g4 : DataW.trod enc Try.prog w base spare held n4 3 (([c0, c1, c2, c3, c4, c5].drop 4).take (Try.prog.cellsOf 3)) = some y4 := g4
          rw [k4] at g4
          replace g4 : DataW.trod enc Try.prog w base spare held n4 3 [c4] = some y4 := g4
          have k5 : Try.prog.cellsOf 9 = 1 := by kernel_rfl
          obtain ⟨n5, y5, g5⟩ := hf 5 _ rfl
          replace g5 : DataW.trod enc Try.prog w base spare held n5 9 (([c0, c1, c2, c3, c4, c5].drop 5).take (Try.prog.cellsOf 9)) = some y5 := g5
          rw [k5] at g5
          replace g5 : DataW.trod enc Try.prog w base spare held n5 9 [c5] = some y5 := g5
          obtain ⟨x0, rfl, p0, b0⟩ := u8_of g0
          obtain ⟨x1, rfl, p1, b1⟩ := u8_of g1
          obtain ⟨x2, rfl, p2, b2⟩ := u8_of g2
          obtain ⟨x3, rfl, p3, b3⟩ := u8_of g3
          obtain ⟨x4, rfl, p4, b4, e4⟩ := int_of g4
          obtain ⟨x5, rfl, p5, b5⟩ := str_of g5
          exact ⟨⟨x0, x1, x2, x3, x4, x5⟩, fun _ => ⟨fun j hj => by rw [hc j hj, ← List.getElem?_toArray]; rfl, b0, b1, b2, b3, b4, e4, b5⟩⟩
      · exact ⟨zA, fun h => absurd h hi⟩
    obtain ⟨z, hz⟩ := Classical.axiomOfChoice key
    exact ⟨z, fun _ => ⟨b, o, ha, hlt, fun i hi => (hz i hi).1⟩, hn, fun j hj => (hz j hj).2⟩
  · exact ⟨fun _ => zA, fun h => absurd h h0, hn, fun j hj => by omega⟩
end
end Go.Proofs.Ytkikonknciffiaa
