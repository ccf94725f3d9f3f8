/- What a row of Calls that came in holds. -/
import Derived.Test.YtnacjcgnkepacaaOpenRows
import Derived.Test.YtnacjcgnkepacaaGatePlays
import Derived.OpenShut
namespace Go.Proofs.Ytnacjcgnkepacaa
open Go.RowKit Go.ChangeShapes Go.WideShapes
set_option linter.unusedVariables false
set_option linter.unusedSimpArgs false

theorem cellsCall : Try.prog.cellsOf 35 = 3 := by kernel_rfl
theorem cellsB : Try.prog.cellsOf 4 = 1 := by kernel_rfl
theorem cellsU : Try.prog.cellsOf 5 = 1 := by kernel_rfl
theorem list_of {α : Type} (n : Nat) (f : Nat → α → Prop) (h : ∀ i, i < n → ∃ x, f i x) : ∃ l : List α, l.length = n ∧ ∀ i, (hi : i < l.length) → f i l[i] := by
  induction n with
  | zero => exact ⟨[], rfl, fun i hi => by simp at hi⟩
  | succ n ih =>
    obtain ⟨l, hl, hf⟩ := ih (fun i hi => h i (by omega))
    obtain ⟨x, hx⟩ := h n (by omega)
    refine ⟨l ++ [x], by simp [hl], fun i hi => ?_⟩
    by_cases hin : i < l.length
    · rw [List.getElem_append_left hin]; exact hf i hin
    · have : i = n := by simp at hi; omega
      subst this
      rw [List.getElem_append_right (by omega)]
      simpa [hl] using hx

theorem calls_open {H : Type} {enc : TypeId × Value → H} {w : World} {base : Nat} {spare : Nat → Bool} {held : Bool} {d : DataW H} {p : List MemPlace} {a : Option Addr} {n c : Nat}
    (h : DataW.Trod enc Try.prog w base spare held 22 (.slice a n c) d p) : ∃ cs, CallsAt w a n cs ∧ n ≤ 9223372036854775807 := by
  obtain ⟨hm, hr⟩ := open_rows rfl Try.underlying22 Try.underlying35 h
  rw [cellsCall] at hr
  unfold maxLen at hm
  by_cases hn : 0 < n
  · obtain ⟨b, o, hb, hi⟩ := hr hn
    obtain ⟨ha, hlt⟩ := hb (by omega)
    obtain ⟨cs, hcl, hcf⟩ := list_of (α := Bool × Nat × Bool) n (fun i x => x.2.1 ≤ 255 ∧ w.cell? ⟨b, o + i * 3, none⟩ = some (.bool x.1) ∧ w.cell? ⟨b, o + i * 3 + 1, none⟩ = some (.int .u8 (x.2.1 : Nat)) ∧ w.cell? ⟨b, o + i * 3 + 2, none⟩ = some (.bool x.2.2)) (fun i hin => by
      obtain ⟨cs, hl, hat, hf⟩ := hi i hin
      match cs, hl with
      | [c0, c1, c2], _ =>
        obtain ⟨n0, y0, h0⟩ := hf 0 _ rfl
        obtain ⟨n1, y1, h1⟩ := hf 1 _ rfl
        obtain ⟨n2, y2, h2⟩ := hf 2 _ rfl
        replace h0 : DataW.trod enc Try.prog w base spare held n0 4 (([c0, c1, c2].drop 0).take (Try.prog.cellsOf 4)) = some y0 := h0
        replace h1 : DataW.trod enc Try.prog w base spare held n1 5 (([c0, c1, c2].drop 1).take (Try.prog.cellsOf 5)) = some y1 := h1
        replace h2 : DataW.trod enc Try.prog w base spare held n2 4 (([c0, c1, c2].drop 2).take (Try.prog.cellsOf 4)) = some y2 := h2
        rw [cellsB] at h0 h2
        rw [cellsU] at h1
        replace h0 : DataW.trod enc Try.prog w base spare held n0 4 [c0] = some y0 := h0
        replace h1 : DataW.trod enc Try.prog w base spare held n1 5 [c1] = some y1 := h1
        replace h2 : DataW.trod enc Try.prog w base spare held n2 4 [c2] = some y2 := h2
        obtain ⟨b0, e0, _⟩ := DataW.trod_bool Try.underlying4 h0
        obtain ⟨z, e1, _, hz⟩ := DataW.trod_int Try.underlying5 h1
        obtain ⟨b2, e2, _⟩ := DataW.trod_bool Try.underlying4 h2
        simp at e0 e1 e2
        subst e0 e1 e2
        obtain ⟨hz0, hz1⟩ := bounds_u8 hz
        refine ⟨(b0, z.toNat, b2), by show z.toNat ≤ 255; omega, ?_, ?_, ?_⟩
        · have := hat 0 (by omega); simpa using this
        · have := hat 1 (by omega)
          rw [← Nat.add_assoc] at this
          rw [this]
          show some (Value.int .u8 z) = some (.int .u8 ((z.toNat : Nat) : Int))
          rw [Int.toNat_of_nonneg hz0]
        · have := hat 2 (by omega)
          rw [← Nat.add_assoc] at this
          rw [this]; rfl)
    refine ⟨cs, ⟨hcl, fun x hx => ?_, fun _ => ⟨b, o, ha, hlt, fun i hi' => (hcf i hi').2⟩⟩, hm⟩
    obtain ⟨i, hi', rfl⟩ := List.getElem_of_mem hx
    exact (hcf i hi').1
  · exact ⟨[], ⟨by simp; omega, (fun x hx => by cases hx), fun hp => absurd hp hn⟩, hm⟩

end Go.Proofs.Ytnacjcgnkepacaa
