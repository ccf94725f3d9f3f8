/- The chapter's closed statement: what its walk wants. -/
import Derived.Test.YtkikonknciffiaaHsLaws
import Derived.ArgAppend
import Derived.Laws.IdiomCopy
import Derived.Lib.LazyBuf
import Derived.Deep.Upon
namespace Go.Proofs.Ytkikonknciffiaa
open Go.RowKit
set_option linter.unusedVariables false
set_option linter.unusedSimpArgs false

def knL : List En := [⟨1, 0, 1, 5, false, 1, 0, ⟨#[]⟩, 0⟩, ⟨1, 1, 2, 5, false, 1, 0, ⟨#[]⟩, 0⟩, ⟨2, 0, 1, 5, true, 1, 0, ⟨#[]⟩, 0⟩, ⟨2, 1, 2, 5, true, 1, 0, ⟨#[]⟩, 0⟩, ⟨3, 0, 3, 5, false, 3, 0, ⟨#[97, 98, 99]⟩, 0⟩, ⟨4, 1, 4, 5, false, 4, 2, ⟨#[]⟩, 0⟩, ⟨5, 1, 4, 5, true, 4, 0, ⟨#[97, 98]⟩, 0⟩, ⟨6, 0, 3, 5, true, 3, 3, ⟨#[]⟩, 0⟩, ⟨7, 0, 5, 5, false, 7, 0, ⟨#[]⟩, 0⟩, ⟨8, 0, 3, 5, false, 8, 0, ⟨#[100]⟩, 0⟩, ⟨9, 0, 3, 5, true, 8, 0, ⟨#[]⟩, 260⟩, ⟨9, 0, 5, 5, true, 7, 0, ⟨#[]⟩, 0⟩, ⟨9, 1, 4, 5, false, 9, 9, ⟨#[]⟩, 0⟩, ⟨9, 1, 4, 5, true, 9, 0, ⟨#[99]⟩, 0⟩, ⟨10, 0, 9, 5, false, 10, 0, ⟨#[]⟩, 2⟩, ⟨11, 0, 4, 0, false, 11, 0, ⟨#[]⟩, 263⟩]
set_option maxRecDepth 100000 in
theorem ex_kn : AccR (zl knL) 16 16 true := acc_all (by decide +kernel)
set_option maxRecDepth 100000 in
theorem ok_kn : ∀ i, i < 16 → EnOk (zl knL i) := okB_at 16 (by decide +kernel)
/-- What an entry's fields may be, as the laws ask. -/
structure Bd (e : En) : Prop where
  s0 : -9223372036854775808 ≤ e.step
  s1 : e.step ≤ 9223372036854775807
  side : e.side ≤ 255
  kind : e.kind ≤ 255
  dlci : e.dlci ≤ 255
  i0 : -9223372036854775808 ≤ e.id
  i1 : e.id ≤ 9223372036854775807
  n0 : -9223372036854775808 ≤ e.n
  n1 : e.n ≤ 9223372036854775807
  size : e.data.size ≤ maxLen
  e0 : -9223372036854775808 ≤ e.err
  e1 : e.err ≤ 9223372036854775807
instance (e : En) : Decidable (Bd e) :=
  decidable_of_iff (-9223372036854775808 ≤ e.step ∧ e.step ≤ 9223372036854775807 ∧ e.side ≤ 255 ∧ e.kind ≤ 255 ∧ e.dlci ≤ 255 ∧ -9223372036854775808 ≤ e.id ∧ e.id ≤ 9223372036854775807 ∧ -9223372036854775808 ≤ e.n ∧ e.n ≤ 9223372036854775807 ∧ e.data.size ≤ 9223372036854775807 ∧ -9223372036854775808 ≤ e.err ∧ e.err ≤ 9223372036854775807)
    ⟨fun ⟨a, b, c, d, e, f, g, h, i, j, k, l⟩ => ⟨a, b, c, d, e, f, g, h, i, j, k, l⟩, fun ⟨a, b, c, d, e, f, g, h, i, j, k, l⟩ => ⟨a, b, c, d, e, f, g, h, i, j, k, l⟩⟩
set_option maxRecDepth 100000 in
theorem bd_kn : ∀ i, i < 16 → Bd (zl knL i) := by decide +kernel
theorem bds {z : Nat → En} {n : Nat} (hn : n ≤ 1000) (h : ∀ j, j < n → Bd (z j)) : n ≤ maxLen ∧ ∀ j, j < n → -9223372036854775808 ≤ (z j).step ∧ (z j).step ≤ 9223372036854775807 ∧ (z j).side ≤ 255 ∧ (z j).kind ≤ 255 ∧ (z j).dlci ≤ 255 ∧ -9223372036854775808 ≤ (z j).id ∧ (z j).id ≤ 9223372036854775807 ∧ -9223372036854775808 ≤ (z j).n ∧ (z j).n ≤ 9223372036854775807 ∧ (z j).data.size ≤ maxLen ∧ -9223372036854775808 ≤ (z j).err ∧ (z j).err ≤ 9223372036854775807 :=
  ⟨by unfold maxLen; omega, fun j hj => by have b := h j hj; exact ⟨b.s0, b.s1, b.side, b.kind, b.dlci, b.i0, b.i1, b.n0, b.n1, b.size, b.e0, b.e1⟩⟩
theorem rowC_one (z : Nat → En) : ∀ n, ∀ u ∈ rowC z n, u.oneCell' = true
  | 0, u, h => by cases h
  | n + 1, u, h => by
    rw [rowC, List.mem_append] at h
    rcases h with h | h
    · exact rowC_one z n u h
    · exact one9 (z n) u h
/-- The cells of a row that lies there, one behind the other. -/
theorem HoldsE.cells {w : World} {b o n : Nat} {z : Nat → En} (h : HoldsE w (some ⟨b, o, none⟩) n z) (j : Nat) (u : Value) (hj : (rowC z n)[j]? = some u) : w.cell? ((⟨b, o, none⟩ : Addr).add j) = some u := by
  have hl : j < n * 9 := by have := (List.getElem?_eq_some_iff.1 hj).1; rw [rowC_length] at this; exact this
  obtain ⟨b', o', e, _, hc⟩ := h (by omega)
  injection e with e
  injection e with e1 e2 _
  subst e1; subst e2
  have h1 := hc (j / 9) (by omega) (j % 9) (by omega)
  have h2 := rowC_at z n (j / 9) (j % 9) (by omega) (by omega)
  rw [show j / 9 * 9 + j % 9 = j by omega] at h1 h2
  rw [Addr.add_lit, h1, ← h2, hj]
/-- A row of the call's own that is not empty. -/
theorem OwnR.block {w : World} {B : Nat} {t : TypeId} {v : Value} {n : Nat} {z : Nat → En} (h : OwnR w B t v n z) (hn : 0 < n) : ∃ g cap cur, v = .slice (some ⟨g, 0, none⟩) n cap ∧ B ≤ g ∧ w.heap[g]? = some (.cells cur t (0, 0)) ∧ n ≤ cap ∧ cap ≤ maxLen ∧ cur.size = cap * 9 ∧ cur.toList.take (n * 9) = rowC z n := by
  rcases h.2 with ⟨_, h0⟩ | ⟨g, cap, cur, h⟩
  · omega
  · exact ⟨g, cap, cur, h⟩
theorem en_at0 {w : World} {b n k : Nat} {z : Nat → En} {st : Int} {sd kd dl : Nat} {en : Bool} {id nn : Int} {dt : ByteArray} {er : Int} (h : HoldsE w (some ⟨b, 0, none⟩) n z) (hk : k < n) (he : z k = ⟨st, sd, kd, dl, en, id, nn, dt, er⟩) :
    w.cell? ⟨b, k * 9, none⟩ = some (.int .i64 st) ∧ w.cell? ⟨b, k * 9 + 1, none⟩ = some (.int .u8 (sd : Int)) ∧ w.cell? ⟨b, k * 9 + 2, none⟩ = some (.int .u8 (kd : Int)) ∧ w.cell? ⟨b, k * 9 + 3, none⟩ = some (.int .u8 (dl : Int)) ∧ w.cell? ⟨b, k * 9 + 4, none⟩ = some (.bool en) ∧ w.cell? ⟨b, k * 9 + 5, none⟩ = some (.int .i64 id) ∧ w.cell? ⟨b, k * 9 + 6, none⟩ = some (.int .i64 nn) ∧ w.cell? ⟨b, k * 9 + 7, none⟩ = some (.string dt) ∧ w.cell? ⟨b, k * 9 + 8, none⟩ = some (.int .i64 er) := by
  obtain ⟨b', o', e, _, hc⟩ := h (by omega)
  injection e with e
  injection e with e1 e2 _
  subst e1; subst e2
  have hc' := hc k hk
  rw [he] at hc'
  have r := en_at hc'
  rw [Nat.zero_add] at r
  exact r
theorem blk_put {w : World} {g q : Nat} {cs : Array Value} {t : TypeId} {fr : Nat × Nat} (h : w.heap[g]? = some (.cells cs t fr)) (v : Value) : (w.setCell ⟨g, q, none⟩ v).heap[g]? = some (.cells (cs.setIfInBounds q v) t fr) := by
  simp [World.setCell, Array.getElem?_modify, h]
theorem rem_nat (k m : Nat) (hm : 0 < m) : ∃ r : Nat, Int.tmod (k : Int) (m : Int) = (r : Int) ∧ r < m := ⟨k % m, by rw [Int.tmod_eq_emod_of_nonneg (by omega)]; rfl, Nat.mod_lt _ hm⟩
theorem i64_wrap (x : Int) : -9223372036854775808 ≤ IntKind.i64.wrap x ∧ IntKind.i64.wrap x ≤ 9223372036854775807 := by
  by_cases h : x % 2 ^ 64 ≥ 2 ^ (64 - 1) <;> simp [IntKind.wrap, IntKind.bits, IntKind.signed] at h ⊢ <;> omega
theorem w64_wrap (x : Int) : -9223372036854775808 ≤ wrap64 x ∧ wrap64 x ≤ 9223372036854775807 := by unfold wrap64; omega
theorem frz {w : World} {g : Nat} {cs : Array Value} {t : TypeId} (h : w.heap[g]? = some (.cells cs t (0, 0))) (q : Nat) : w.frozen? ⟨g, q, none⟩ = false := by simp [World.frozen?, h]
theorem size_setCells' (b : Nat) : ∀ (vs : List Value) (o : Nat) (w : World), (w.setCells b o vs).heap.size = w.heap.size := fun vs o w => by
  induction vs generalizing o w with
  | nil => rfl
  | cons v vs ih => unfold World.setCells; rw [ih]; simp
/-- An entry of a row exchanged. -/
theorem HoldsE.put {w : World} {g n k : Nat} {z : Nat → En} (e : En) (h : HoldsE w (some ⟨g, 0, none⟩) n z) (hk : k < n) : HoldsE (w.setCells g (k * 9) (enA e).toList) (some ⟨g, 0, none⟩) n (putZ z k e) := by
  intro h0
  obtain ⟨b', o', he, hlt, hc⟩ := h h0
  injection he with he
  injection he with e1 e2 _
  subst e1; subst e2
  have hsome : ∀ j, j < (enA e).toList.length → (w.cell? ⟨g, k * 9 + j, none⟩).isSome = true := by
    intro j hj
    have hj9 : j < 9 := hj
    have := hc k hk j hj9
    rw [Nat.zero_add] at this
    rw [this, Array.getElem?_eq_getElem (show j < (enA (z k)).size from hj9)]
    rfl
  refine ⟨g, 0, rfl, by rw [size_setCells']; exact hlt, fun i hi j hj => ?_⟩
  rw [Nat.zero_add]
  by_cases hik : i = k
  · subst hik
    rw [putZ_at, World.cell?_setCells_in g _ _ _ hsome j (show j < (enA e).toList.length from hj), ← Array.getElem?_toList, List.getElem?_eq_getElem (show j < (enA e).toList.length from hj)]
  · rw [World.cell?_setCells_out g _ _ _ _ (fun _ _ => by have : (enA e).toList.length = 9 := rfl; rw [this]; show i * 9 + j < k * 9 ∨ k * 9 + 9 ≤ i * 9 + j; omega)]
    have := hc i hi j hj
    rw [Nat.zero_add] at this
    rw [this]
    unfold putZ
    rw [if_neg hik]
theorem slice_inj {a b : Option Addr} {n m c d : Nat} (h : Value.slice a n c = Value.slice b m d) : b = a ∧ d = c := by injection h with h1 h2 h3; exact ⟨h1.symm, h3.symm⟩
theorem u8_wrap (x : Int) : ∃ m : Nat, IntKind.u8.wrap x = (m : Int) ∧ m ≤ 255 := by
  have h : 0 ≤ IntKind.u8.wrap x ∧ IntKind.u8.wrap x ≤ 255 := by simp [IntKind.wrap, IntKind.bits, IntKind.signed]; omega
  exact ⟨(IntKind.u8.wrap x).toNat, by omega, by omega⟩
end Go.Proofs.Ytkikonknciffiaa
