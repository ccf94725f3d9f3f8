/- What a slice of structs that came in holds, field by field. -/
import Derived.Test.YtkikonknciffiaaBase
import Derived.Deep.Slices
import Derived.ProofKit
namespace Go.Proofs.Ytkikonknciffiaa
open Go.RowKit Go.ChangeShapes Go.WideShapes
set_option linter.unusedVariables false
set_option linter.unusedSimpArgs false
section
variable {H : Type} {enc : TypeId × Value → H} {P : Program} {w : World} {base : Nat} {spare : Nat → Bool} {held : Bool}

theorem plain_of_cell {w : World} {a : Addr} {v : Value} (h : w.cell? a = some v) : a = ⟨a.block, a.off, none⟩ := by
  obtain ⟨b, o, s⟩ := a
  cases s with
  | none => rfl
  | some s =>
    unfold World.cell? at h
    split at h
    · simp at h
    · cases h

/-- Each element's cells; and each field's own reading. -/
theorem open_rows {t e : TypeId} {fs : Array Field} {v : Value} {d : DataW H} {p : List MemPlace} {a0 : Option Addr} {len0 cap0 : Nat} (hv : v = .slice a0 len0 cap0)
    (ht : P.underlying t = some (.slice e)) (he : P.underlying e = some (.struct fs)) (h : DataW.Trod enc P w base spare held t v d p) :
    len0 ≤ maxLen ∧ (0 < len0 → ∃ b o, (0 < P.cellsOf e → a0 = some ⟨b, o, none⟩ ∧ b < w.heap.size) ∧ ∀ i, i < len0 → ∃ cs : List Value, cs.length = P.cellsOf e ∧
      (∀ j, j < P.cellsOf e → w.cell? ⟨b, o + (i * P.cellsOf e + j), none⟩ = cs[j]?) ∧
      ∀ (j : Nat) (f : Field), fs[j]? = some f → ∃ n y, DataW.trod enc P w base spare held n f.type ((cs.drop f.offset).take (P.cellsOf f.type)) = some y) := by
  subst hv
  obtain ⟨fuel, hf⟩ := h
  rcases Go.Deep.open_slice ht hf with ⟨h0, _⟩ | ⟨a, len, cap, m, n, D, Pl, hcs, hb, hl, hm, hmm, hx, hi⟩
  · simp [Value.cells] at h0
    obtain ⟨_, rfl, _⟩ := h0
    exact ⟨Nat.zero_le _, fun hp => by omega⟩
  · simp [Value.cells] at hcs
    obtain ⟨rfl, rfl, rfl⟩ := hcs
    have hml : len0 ≤ m := by rw [hmm]; split <;> omega
    refine ⟨Nat.le_trans hl hm, fun hp => ⟨a.block, a.off, fun hce => ?_, fun i hil => ?_⟩⟩
    · obtain ⟨cs', hc, ht'⟩ := hi 0 (by omega)
      obtain ⟨_, hcl, hat⟩ := World.cells?_some hc
      have h1 := hat 0 hce
      rw [Nat.zero_mul, Go.Deep.add_add, List.getElem?_eq_getElem (by omega)] at h1
      have h2 : a.add 0 = a := by unfold Addr.add; simp
      rw [h2] at h1
      exact ⟨congrArg some (plain_of_cell h1), World.block_lt_of_cell? w a h1⟩
    · obtain ⟨cs', hc, ht'⟩ := hi i (by omega)
      obtain ⟨_, hcl, hat⟩ := World.cells?_some hc
      obtain ⟨ys, n', hn', hy, hlen, hyl, hfl⟩ := DataW.trod_struct he ht'
      refine ⟨cs', hcl, fun j hj => ?_, fun j f hjf => ?_⟩
      · have h1 := hat j hj
        rw [Go.Deep.add_add] at h1
        obtain ⟨c0, hc0, _⟩ := hi 0 (by omega)
        obtain ⟨_, hcl0, hat0⟩ := World.cells?_some hc0
        have h3 := hat0 0 (by omega)
        rw [Nat.zero_mul, Go.Deep.add_add, List.getElem?_eq_getElem (by omega)] at h3
        have h2 : a.add 0 = a := by unfold Addr.add; simp
        rw [h2] at h3
        have h4 := plain_of_cell h3
        rw [h4, Addr.add_lit] at h1
        exact h1
      · have hjl : j < fs.size := (Array.getElem?_eq_some_iff.1 hjf).1
        refine ⟨n', ys[j]'(by omega), ?_⟩
        rw [hfl j f hjf]
        exact List.getElem?_eq_getElem (by omega)
end
end Go.Proofs.Ytkikonknciffiaa
