/- A frame that came in by value: its fields. -/
import Derived.Test.YtnnimkailajgaaaDoorBase
import Derived.Lib.SmallJoins
import Derived.OpenShut
import Derived.SliceStrings
namespace Go.Proofs.YtnnimkailajgaaaDoor
open Go.Joins Go.ChangeShapes Go.WideShapes Go.RowKit Go.Deep
set_option linter.unusedVariables false
set_option linter.unusedSimpArgs false
section
variable {H : Type} {enc : TypeId × Value → H} {P : Program} {w : World} {base : Nat} {spare : Nat → Bool} {held : Bool}
theorem open_agg7 {r : Reach} {b0 : Nat} {t : TypeId} {f0 f1 f2 f3 f4 f5 f6 : Field} {v : Value} {d : DataW H} {p : List MemPlace} (hs : P.underlying t = some (.struct #[f0, f1, f2, f3, f4, f5, f6])) (hone : oneCellFields P #[f0, f1, f2, f3, f4, f5, f6] = true) (hC : P.cellsOf t = 7)
    (hv : Value.okWide P w r b0 t v) (h : DataW.Trod enc P w base spare held t v d p) :
    ∃ (v0 v1 v2 v3 v4 v5 v6 : Value) (y0 y1 y2 y3 y4 y5 y6 : DataW H × List MemPlace) (n : Nat), v = .agg #[v0, v1, v2, v3, v4, v5, v6] ∧ p = y0.2 ++ (y1.2 ++ (y2.2 ++ (y3.2 ++ (y4.2 ++ (y5.2 ++ y6.2))))) ∧
      DataW.trod enc P w base spare held n f0.type [v0] = some y0 ∧ DataW.trod enc P w base spare held n f1.type [v1] = some y1 ∧ DataW.trod enc P w base spare held n f2.type [v2] = some y2 ∧ DataW.trod enc P w base spare held n f3.type [v3] = some y3 ∧ DataW.trod enc P w base spare held n f4.type [v4] = some y4 ∧ DataW.trod enc P w base spare held n f5.type [v5] = some y5 ∧ DataW.trod enc P w base spare held n f6.type [v6] = some y6 := by
  obtain ⟨cs, rfl, hsz⟩ := okWide_struct hs hv
  obtain ⟨l⟩ := cs
  match l, hsz.trans hC with
  | [c0, c1, c2, c3, c4, c5, c6], _ =>
    obtain ⟨fuel, hf⟩ := h
    obtain ⟨xs, n, _, hx, _, hlen, hg⟩ := DataW.trod_struct hs hf
    obtain ⟨o0, k0⟩ := hone_of hone 0 f0 rfl
    obtain ⟨o1, k1⟩ := hone_of hone 1 f1 rfl
    obtain ⟨o2, k2⟩ := hone_of hone 2 f2 rfl
    obtain ⟨o3, k3⟩ := hone_of hone 3 f3 rfl
    obtain ⟨o4, k4⟩ := hone_of hone 4 f4 rfl
    obtain ⟨o5, k5⟩ := hone_of hone 5 f5 rfl
    obtain ⟨o6, k6⟩ := hone_of hone 6 f6 rfl
    match xs, hlen with
    | [y0, y1, y2, y3, y4, y5, y6], _ =>
      simp only [Prod.mk.injEq] at hx
      exact ⟨c0, c1, c2, c3, c4, c5, c6, y0, y1, y2, y3, y4, y5, y6, n, rfl, by simpa using hx.2, by simpa [Value.cells, o0, k0] using hg 0 f0 rfl, by simpa [Value.cells, o1, k1] using hg 1 f1 rfl, by simpa [Value.cells, o2, k2] using hg 2 f2 rfl, by simpa [Value.cells, o3, k3] using hg 3 f3 rfl, by simpa [Value.cells, o4, k4] using hg 4 f4 rfl, by simpa [Value.cells, o5, k5] using hg 5 f5 rfl, by simpa [Value.cells, o6, k6] using hg 6 f6 rfl⟩

theorem u8_of {n : Nat} {v : Value} {y : DataW H × List MemPlace} (h : DataW.trod enc Tryd.prog w base spare held n 5 [v] = some y) : ∃ x : Nat, v = .int .u8 (x : Int) ∧ y.2 = [] ∧ x ≤ 255 := by
  obtain ⟨z, e1, e2, hz⟩ := DataW.trod_int Tryd.underlying5 h
  obtain ⟨b1, b2⟩ := bounds_u8 hz
  obtain ⟨x, rfl⟩ := Int.eq_ofNat_of_zero_le b1
  exact ⟨x, by simpa using e1, by rw [e2], by omega⟩
theorem bool_of {n : Nat} {v : Value} {y : DataW H × List MemPlace} (h : DataW.trod enc Tryd.prog w base spare held n 4 [v] = some y) : ∃ x : Bool, v = .bool x ∧ y.2 = [] := by
  obtain ⟨x, e1, e2⟩ := DataW.trod_bool Tryd.underlying4 h
  exact ⟨x, by simpa using e1, by rw [e2]⟩
theorem str_of {n : Nat} {v : Value} {y : DataW H × List MemPlace} (h : DataW.trod enc Tryd.prog w base spare held n 9 [v] = some y) : ∃ x : ByteArray, v = .string x ∧ y.2 = [] ∧ x.size ≤ maxLen := by
  obtain ⟨x, e1, e2, hz⟩ := DataW.trod_string Tryd.underlying9 h
  exact ⟨x, by simpa using e1, by rw [e2], hz⟩

theorem open_frame {r : Reach} {b0 : Nat} {v : Value} {d : DataW H} {p : List MemPlace} (hv : Value.okWide Tryd.prog w r b0 30 v) (h : DataW.Trod enc Tryd.prog w base spare held 30 v d p) :
    ∃ (d k s r : Nat) (c pf : Bool) (i : ByteArray), v = .agg #[.int .u8 (d : Int), .bool c, .int .u8 (k : Int), .bool pf, .int .u8 (s : Int), .int .u8 (r : Int), .string i] ∧ p = [] ∧ d ≤ 255 ∧ k ≤ 255 ∧ s ≤ 255 ∧ r ≤ 255 ∧ i.size ≤ maxLen := by
  obtain ⟨v0, v1, v2, v3, v4, v5, v6, y0, y1, y2, y3, y4, y5, y6, n, rfl, hp, h0, h1, h2, h3, h4, h5, h6⟩ := open_agg7 Tryd.underlying30 (by kernel_rfl) (by kernel_rfl) hv h
  obtain ⟨x0, rfl, p0, b0⟩ := u8_of h0
  obtain ⟨x1, rfl, p1⟩ := bool_of h1
  obtain ⟨x2, rfl, p2, b2⟩ := u8_of h2
  obtain ⟨x3, rfl, p3⟩ := bool_of h3
  obtain ⟨x4, rfl, p4, b4⟩ := u8_of h4
  obtain ⟨x5, rfl, p5, b5⟩ := u8_of h5
  obtain ⟨x6, rfl, p6, b6⟩ := str_of h6
  exact ⟨x0, x2, x4, x5, x1, x3, x6, rfl, by rw [hp, p0, p1, p2, p3, p4, p5, p6]; rfl, b0, b2, b4, b5, b6⟩
end
end Go.Proofs.YtnnimkailajgaaaDoor
