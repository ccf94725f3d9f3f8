/- What slices of strings and of bytes that came in hold. -/
import Derived.Test.YtkgdnpodohpppaaClWorks
import Derived.SliceStrings
import Derived.ProofKit
import Derived.OpenShut
namespace Go.Proofs.Ytkgdnpodohpppaa
open Go.RowKit Go.ChangeShapes Go.WideShapes
set_option linter.unusedVariables false
set_option linter.unusedSimpArgs false
theorem cellsS : Try.prog.cellsOf 9 = 1 := by kernel_rfl
theorem cellsU : Try.prog.cellsOf 5 = 1 := by kernel_rfl
section
variable {H : Type} {enc : TypeId × Value → H} {w : World} {base : Nat} {spare : Nat → Bool} {held : Bool}
theorem plain_of_cell {w : World} {a : Addr} {v : Value} (h : w.cell? a = some v) : a = ⟨a.block, a.off, none⟩ := by
  obtain ⟨b, o, s⟩ := a
  cases s with
  | none => rfl
  | some s =>
    unfold World.cell? at h
    split at h
    · simp at h
    · cases h
theorem add_zero_addr (a : Addr) : a.add 0 = a := by unfold Addr.add; simp

theorem strs_open {d : DataW H} {p : List MemPlace} {a : Option Addr} {n c : Nat} (h : DataW.Trod enc Try.prog w base spare held 23 (.slice a n c) d p) :
    ∃ z : Nat → ByteArray, HoldsS w a n z ∧ (n ≤ maxLen ∧ ∀ j, j < n → (z j).size ≤ maxLen) := by
  obtain ⟨fuel, hf⟩ := h
  rcases open_strings Try.underlying23 Try.underlying9 cellsS hf with ⟨hcs, _⟩ | ⟨a', len', cap', ss, hcs, _, hl, hm, hz, _, hcell, hsz⟩
  · simp [Value.cells] at hcs
    obtain ⟨_, rfl, _⟩ := hcs
    exact ⟨fun _ => ⟨#[]⟩, fun h => by omega, by omega, fun j hj => by omega⟩
  · simp [Value.cells] at hcs
    obtain ⟨rfl, rfl, rfl⟩ := hcs
    have hlen : n ≤ ss.length := by rw [hz]; split <;> omega
    refine ⟨fun j => ss.getD j ByteArray.empty, fun h0 => ?_, by omega, fun j hj => ?_⟩
    · have h1 := hcell 0 (by omega)
      rw [add_zero_addr] at h1
      have h2 := plain_of_cell h1
      refine ⟨a'.block, a'.off, congrArg some h2, World.block_lt_of_cell? w a' h1, fun j hj => ?_⟩
      have h3 := hcell j (by omega)
      rw [h2, Addr.add_lit] at h3
      exact h3
    · refine hsz _ ?_
      simp [List.getD, show j < ss.length by omega]

theorem u8s_open {d : DataW H} {p : List MemPlace} {a : Option Addr} {n c : Nat} (h : DataW.Trod enc Try.prog w base spare held 37 (.slice a n c) d p) :
    ∃ z : List Int, Holds8 w a n z ∧ (n ≤ maxLen ∧ ∀ j, j < n → 0 ≤ z.getD j 0 ∧ z.getD j 0 ≤ 255) := by
  obtain ⟨fuel, hf⟩ := h
  rcases open_ints Try.underlying37 Try.underlying5 cellsU hf with ⟨hcs, _⟩ | ⟨a', len', cap', zs, hcs, _, hl, hm, hz, _, hcell, hwf⟩
  · simp [Value.cells] at hcs
    obtain ⟨_, rfl, _⟩ := hcs
    exact ⟨[], fun h => by omega, by omega, fun j hj => by omega⟩
  · simp [Value.cells] at hcs
    obtain ⟨rfl, rfl, rfl⟩ := hcs
    have hlen : n ≤ zs.length := by rw [hz]; split <;> omega
    refine ⟨zs, fun h0 => ?_, by omega, fun j hj => ?_⟩
    · have h1 := hcell 0 (by omega)
      rw [add_zero_addr] at h1
      have h2 := plain_of_cell h1
      refine ⟨a'.block, a'.off, congrArg some h2, World.block_lt_of_cell? w a' h1, fun j hj => ?_⟩
      have h3 := hcell j (by omega)
      rw [h2, Addr.add_lit] at h3
      exact h3
    · have hj' : j < zs.length := by omega
      have h4 := hwf zs[j] (List.getElem_mem hj')
      obtain ⟨h5, h6⟩ := bounds_u8 h4
      simp only [List.getD, List.getElem?_eq_getElem hj', Option.getD_some]
      exact ⟨h5, h6⟩
end
end Go.Proofs.Ytkgdnpodohpppaa
