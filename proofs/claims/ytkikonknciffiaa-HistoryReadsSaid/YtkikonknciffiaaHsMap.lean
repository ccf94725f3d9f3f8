/- A map from places to records: what a look-up finds, what a store leaves. -/
import Derived.Test.YtkikonknciffiaaHsPlain
import Derived.Laws.StructEq
import Derived.MapKept
namespace Go.Proofs.Ytkikonknciffiaa
open Go.RowKit Go.ChangeShapes
set_option linter.unusedVariables false
set_option linter.unusedSimpArgs false

def plc (s d : Nat) : Value := .agg #[.int .u8 (s : Int), .int .u8 (d : Int)]
def mkE (i : Nat) (x : Nat × Nat × Nat) : MapEntry := { key := plc x.1 x.2.1, val := .pointer (some ⟨x.2.2, 0, none⟩), born := i }
def entsF : List (Nat × Nat × Nat) → Nat → List MapEntry
  | [], _ => []
  | x :: l, i => mkE i x :: entsF l (i + 1)
def ents (L : List (Nat × Nat × Nat)) : Array MapEntry := (entsF L 0).toArray
theorem entsF_snoc (L : List (Nat × Nat × Nat)) (x : Nat × Nat × Nat) : ∀ i, entsF (L ++ [x]) i = entsF L i ++ [mkE (i + L.length) x] := by
  induction L with
  | nil => intro i; simp [entsF]
  | cons y l ih => intro i; simp [entsF, ih, Nat.add_assoc, Nat.add_comm 1]
theorem ents_snoc (L : List (Nat × Nat × Nat)) (x : Nat × Nat × Nat) : ents (L ++ [x]) = (ents L).push (mkE L.length x) := by
  unfold ents
  rw [entsF_snoc]
  simp
def findR (s d : Nat) : List (Nat × Nat × Nat) → Option Nat
  | [] => none
  | x :: l => if x.1 = s ∧ x.2.1 = d then some x.2.2 else findR s d l
def ptrO : Option Nat → Value
  | none => .pointer none
  | some g => .pointer (some ⟨g, 0, none⟩)
theorem plc_eq (W : World) (s d s' d' : Nat) : (Op.equal 62 (plc s d) (plc s' d')).run Try.prog W = .ok (decide (s' = s ∧ d' = d)) W := by
  unfold plc
  show (Op.equalIn (9999 + 1) 62 _ _).run Try.prog W = _
  rw [run_equalIn_agg W 9999 62 _ _ (by kernel_rfl) (by kernel_rfl)]
  simp only [Program.fieldsOf, Try.underlying62]
  simp [go_sem, Op.eqFields]
  by_cases h1 : s = s'
  · subst h1
    by_cases h2 : d = d'
    · subst h2; simp
    · rw [if_pos rfl, if_neg (by omega)]; simp [Ne.symm h2]
  · rw [if_neg (by omega)]; simp [Ne.symm h1]
theorem plc_key (W : World) (em : Bool) (s d : Nat) : (Instr.checkKey em 10000 62 (plc s d)).run Try.prog W = .ok () W := by
  unfold plc Instr.checkKey
  simp [go_sem, Try.underlying62]
  rw [Go.MapKept.run_checkKey Try.underlying5 (show Go.MapKept.IsKey (.int .u8) (.int .u8 (s : Int)) from rfl) em 9998]
  simp only [Result.andThen]
  exact Go.MapKept.run_checkKey Try.underlying5 (show Go.MapKept.IsKey (.int .u8) (.int .u8 (d : Int)) from rfl) em 9998
theorem findR_ne {s d : Nat} {x : Nat × Nat × Nat} (l : List (Nat × Nat × Nat)) (h : ¬ (x.1 = s ∧ x.2.1 = d)) : findR s d (x :: l) = findR s d l := by
  show (if x.1 = s ∧ x.2.1 = d then some x.2.2 else findR s d l) = _
  rw [if_neg h]
/-- Where a place's record is. -/
theorem find_asking (W : World) (s d : Nat) : ∀ (L : List (Nat × Nat × Nat)) (i j : Nat), (∃ q : Nat × Value, (Instr.findAsking 62 (plc s d) (entsF L j) i).run Try.prog W = .ok (some q) W ∧ some q.2 = (findR s d L).map (fun g => .pointer (some ⟨g, 0, none⟩))) ∨
    ((Instr.findAsking 62 (plc s d) (entsF L j) i).run Try.prog W = .ok none W ∧ findR s d L = none) := by
  intro L
  induction L with
  | nil => intro i j; exact .inr ⟨by simp [entsF, Instr.findAsking], rfl⟩
  | cons x l ih =>
    intro i j
    have he := plc_eq W s d x.1 x.2.1
    by_cases hx : x.1 = s ∧ x.2.1 = d
    · rw [decide_eq_true hx] at he
      refine .inl ⟨(i, .pointer (some ⟨x.2.2, 0, none⟩)), by simp [entsF, Instr.findAsking, mkE, he], by simp [findR, hx]⟩
    · rw [decide_eq_false hx] at he
      rcases ih (i + 1) (j + 1) with ⟨q, h1, h2⟩ | ⟨h1, h2⟩
      · exact .inl ⟨q, by simp [entsF, Instr.findAsking, mkE, he, h1], by rw [h2, findR_ne l hx]⟩
      · exact .inr ⟨by simp [entsF, Instr.findAsking, mkE, he, h1], by rw [findR_ne l hx]; exact h2⟩
theorem find_key (W : World) (s d : Nat) (L : List (Nat × Nat × Nat)) : (∃ q : Nat × Value, (Instr.findKey 62 (plc s d) (ents L).toList).run Try.prog W = .ok (some q) W ∧ some q.2 = (findR s d L).map (fun g => .pointer (some ⟨g, 0, none⟩))) ∨
    ((Instr.findKey 62 (plc s d) (ents L).toList).run Try.prog W = .ok none W ∧ findR s d L = none) := by
  have h := find_asking W s d L 0 0
  unfold Instr.findKey
  simp only [Sem.run_bind, run_underlying Try.underlying62, Result.andThen_ok]
  cases L with
  | nil => exact .inr ⟨rfl, rfl⟩
  | cons x l =>
    have e : ∀ D : TypeDesc, (∀ k, D ≠ .int k) → D ≠ .string → D ≠ .bool → Instr.findNow D (plc s d) (ents (x :: l)).toList 0 = none := by
      intro D _ _ _
      show (match Instr.sameNow D (plc s d) (plc x.1 x.2.1) with | some true => _ | some false => _ | none => _) = _
      have : Instr.sameNow D (plc s d) (plc x.1 x.2.1) = none := by unfold plc Instr.sameNow; cases D <;> rfl
      rw [this]
    rw [e _ (fun k h => by cases h) (fun h => by cases h) (fun h => by cases h)]
    exact h
/-- A look-up. -/
theorem look_run (W : World) (gm clk s d : Nat) (L : List (Nat × Nat × Nat)) (h : W.heap[gm]? = some (.map (ents L) clk)) :
    (Instr.lookup 48 (.map (some gm)) (plc s d) false).run Try.prog W = .ok (ptrO (findR s d L)) W := by
  unfold Instr.lookup
  simp only [Sem.run_bind, run_underlying Try.underlying48, Result.andThen_ok, Go.MapKept.run_getObj_map h, Sem.run_pure, plc_key]
  rcases find_key W s d L with ⟨q, h1, h2⟩ | ⟨h1, h2⟩
  · rw [h1]
    cases hf : findR s d L with
    | none => rw [hf] at h2; cases h2
    | some g =>
      rw [hf] at h2
      simp only [Option.map_some, Option.some.injEq] at h2
      simp [h2, ptrO]
  · rw [h1, h2]
    simp [ptrO, go_sem]
/-- A store at a key that is not there. -/
theorem put_run (W : World) (gm clk s d g : Nat) (L : List (Nat × Nat × Nat)) (h : W.heap[gm]? = some (.map (ents L) L.length)) (hn : findR s d L = none) :
    (Instr.mapUpdate 48 (.map (some gm)) (plc s d) (.pointer (some ⟨g, 0, none⟩))).run Try.prog W = .ok () { W with heap := W.heap.setIfInBounds gm (.map (ents (L ++ [(s, d, g)])) (L ++ [(s, d, g)]).length) } := by
  unfold Instr.mapUpdate
  simp only [Sem.run_bind, run_underlying Try.underlying48, Result.andThen_ok, Go.MapKept.run_getObj_map h, plc_key]
  rcases find_key W s d L with ⟨q, h1, h2⟩ | ⟨h1, h2⟩
  · rw [hn] at h2; cases h2
  · rw [h1]
    simp only [Result.andThen_ok]
    rw [Go.MapKept.run_setObj_map _ h, ents_snoc, List.length_append]
    rfl
end Go.Proofs.Ytkikonknciffiaa
