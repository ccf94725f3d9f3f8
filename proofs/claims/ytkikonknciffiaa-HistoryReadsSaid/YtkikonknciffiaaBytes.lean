/- Laws at the walk's own level for a text's bytes in a new row, and back: 'b := []byte(s)', 'string(b)'. -/
import Derived.Test.YtkikonknciffiaaBase
import Derived.Laws.IdiomStrings
namespace Go.Proofs.Ytkikonknciffiaa
open Go.RowKit
set_option linter.unusedVariables false
set_option linter.unusedSimpArgs false

theorem bytesRow_get (s : ByteArray) (cap j : Nat) (hj : j < s.size) : (bytesRow s cap)[j]? = some (.int .u8 (s[j].toNat : Nat)) := by
  have h1 : j < s.data.size := hj
  unfold bytesRow
  rw [Array.getElem?_append_left (by simpa using h1), Array.getElem?_map, Array.getElem?_eq_getElem h1]
  rfl

theorem cell_marked (X : World) (c : Array Value) (e : TypeId) (f : Nat × Nat) (j : Nat) : (X.alloc (.cells c e f)).cell? ⟨X.heap.size, j, none⟩ = c[j]? := by
  show (match (X.heap.push (Obj.cells c e f))[X.heap.size]? with | some (.cells c _ _) => if (none : Option Nat).isSome then none else c[j]? | _ => none) = _
  rw [Array.getElem?_push_size]
  rfl
theorem frozen_marked (X : World) (c : Array Value) (e : TypeId) (lo hi j : Nat) (h : j < lo) : (X.alloc (.cells c e (lo, hi))).frozen? ⟨X.heap.size, j, none⟩ = false := by
  show (match (X.heap.push (Obj.cells c e (lo, hi)))[X.heap.size]? with | some (.cells _ _ (lo, hi)) => decide (lo ≤ j) && decide (j < hi) | _ => false) = _
  rw [Array.getElem?_push_size]
  simp
  omega

/-- '[]byte(s)'. -/
theorem wpList_to_bytes {P : Program} (w : World) {ops : Array Oper} {rest : List Oper} {o : Oper} {a : Act} {Q : Exit → Act → World → Prop}
    (hg : o.guard = none) (x : Operand) (src dst e : TypeId) (hop : o.op = Op.convert src dst x) (hs : P.underlying src = some .string) (hd : P.underlying dst = some (.slice e)) (he : P.underlying e = some (.int .u8))
    (s : ByteArray) (hx : a.eval x = .string s)
    (hK : ∀ cap w', s.size ≤ cap → w'.heap.size = w.heap.size + 1 → Below w.heap.size w w' →
      (∀ j, (hj : j < s.size) → w'.cell? ⟨w.heap.size, j, none⟩ = some (.int .u8 (s[j].toNat : Nat)) ∧ w'.frozen? ⟨w.heap.size, j, none⟩ = false) →
      wpList P ops Q rest (a.put o.dst (.slice (some ⟨w.heap.size, 0, none⟩) s.size cap)) w') :
    wpList P ops Q (o :: rest) a w := by
  refine wpList_plain hg fun K hK' => ?_
  have hrun := run_bytes_of_string (P := P) w src dst e s hs hd he
  unfold Oper.wp
  simp [execOp, hop, hx, hrun, Result.andThen]
  have hcap : s.size ≤ grownCap w s.size 0 e := grownCap_ge _ _ _ _
  have hsz : (bytesRow s (grownCap w s.size 0 e)).size = grownCap w s.size 0 e := by
    unfold bytesRow
    rw [Array.size_append, Array.size_map, Array.size_replicate]
    show s.size + _ = _
    omega
  refine hK' _ _ (hK _ _ hcap (by simp) ((Below.refl _ _).drew.alloc (by simp) _) fun j hj => ?_)
  constructor
  · exact (cell_marked w.drew _ e _ j).trans (bytesRow_get s _ j hj)
  · exact frozen_marked w.drew _ e _ _ j (by omega)

/-- 'string(b)' of a slice whose cells are known. -/
theorem wpList_of_bytes {P : Program} (w : World) {ops : Array Oper} {rest : List Oper} {o : Oper} {a : Act} {Q : Exit → Act → World → Prop}
    (hg : o.guard = none) (x : Operand) (src dst e : TypeId) (hop : o.op = Op.convert src dst x) (hs : P.underlying src = some (.slice e)) (he : P.underlying e = some (.int .u8)) (hd : P.underlying dst = some .string)
    (ad : Option Addr) (n c : Nat) (l : List UInt8) (hl : l.length = n) (hx : a.eval x = .slice ad n c)
    (hc : 0 < n → ∃ b, ad = some b ∧ ∀ j, (hj : j < l.length) → w.cell? (b.add j) = some (.int .u8 (l[j].toNat : Nat)))
    (hK : wpList P ops Q rest (a.put o.dst (.string ⟨l.toArray⟩)) w) :
    wpList P ops Q (o :: rest) a w := by
  refine wpList_plain hg fun K hK' => ?_
  have hrun : (convert src dst (.slice ad n c)).run P w = .ok (.string ⟨l.toArray⟩) w := by
    subst hl
    by_cases h0 : 0 < l.length
    · obtain ⟨b, rfl, hb⟩ := hc h0
      exact run_convert_bytes_back w src dst e b c l hs he hd hb
    · have : l = [] := List.eq_nil_of_length_eq_zero (by omega)
      subst this
      rw [run_convert_bytes_string w src dst e _ _ _ hs he hd]
      cases ad with
      | none => simp [Conv.bytesToString]; rfl
      | some b => 
        have := run_bytesToString (P := P) w b 0 c [] (by simp [loadCells, loadCellsFrom])
        exact this
  unfold Oper.wp
  simp [execOp, hop, hx, hrun, Result.andThen]
  exact hK' _ _ hK

theorem run_conv {P : Program} {src dst e : TypeId} (hs : P.underlying src = some (.slice e)) (he : P.underlying e = some (.int .u8)) (hd : P.underlying dst = some .string)
    (W : World) (l : List Int) (n c g : Nat) (hn : l.length = n) (hg : g = W.heap.size) (hl : ∀ x ∈ l, 0 ≤ x ∧ x ≤ 255) :
    (convert src dst (.slice (some ⟨g, 0, none⟩) n c)).run P (W.alloc (.cells (l.map (Value.int .u8)).toArray e)) = .ok (.string ⟨(l.map fun x => UInt8.ofNat x.toNat).toArray⟩) (W.alloc (.cells (l.map (Value.int .u8)).toArray e)) := by
  subst hn hg
  have h := run_convert_bytes_back (P := P) (W.alloc (.cells (l.map (Value.int .u8)).toArray e)) src dst e ⟨W.heap.size, 0, none⟩ c (l.map fun x => UInt8.ofNat x.toNat) hs he hd (fun j hj => by
    rw [List.length_map] at hj
    rw [show (⟨W.heap.size, 0, none⟩ : Addr).add j = ⟨W.heap.size, j, none⟩ by unfold Addr.add; split <;> simp_all, World.cell?_alloc_new]
    have hx := hl l[j] (List.getElem_mem hj)
    simp [hj]
    omega)
  rw [List.length_map] at h
  exact h

/-- 'string([]byte{x})', 'string([]byte{x, y})', as the walk writes them. -/
@[go_sem] theorem conv_one (W : World) (x : Int) (c g : Nat) (hg : g = W.heap.size) (h1 : 0 ≤ x) (h2 : x ≤ 255) :
    (convert 43 9 (.slice (some ⟨g, 0, none⟩) 1 c)).run Try.prog (W.alloc (.cells #[.int .u8 x] 5)) = .ok (.string ⟨#[UInt8.ofNat x.toNat]⟩) (W.alloc (.cells #[.int .u8 x] 5)) :=
  run_conv Try.underlying43 Try.underlying5 Try.underlying9 W [x] 1 c g rfl hg (by intro y hy; simp at hy; omega)
@[go_sem] theorem conv_two (W : World) (x y : Int) (c g : Nat) (hg : g = W.heap.size) (h1 : 0 ≤ x) (h2 : x ≤ 255) (h3 : 0 ≤ y) (h4 : y ≤ 255) :
    (convert 43 9 (.slice (some ⟨g, 0, none⟩) 2 c)).run Try.prog (W.alloc (.cells #[.int .u8 x, .int .u8 y] 5)) = .ok (.string ⟨#[UInt8.ofNat x.toNat, UInt8.ofNat y.toNat]⟩) (W.alloc (.cells #[.int .u8 x, .int .u8 y] 5)) :=
  run_conv Try.underlying43 Try.underlying5 Try.underlying9 W [x, y] 2 c g rfl hg (by intro z hz; simp at hz; omega)

end Go.Proofs.Ytkikonknciffiaa
