/- Chapter 4's examples, and the walks of the laws BasicEncodes, BasicDecodes. -/
import Derived.Test.YtnnimkailajgaaaDoorBasBackPlain
import Derived.Laws.MakeOwn
namespace Go.Proofs.YtnnimkailajgaaaDoor.Bs
open Go.RowKit
set_option linter.unusedVariables false
set_option linter.unusedSimpArgs false

def zeros (n : Nat) : Obj := .cells (madeCells (Value.int .u8 0).cells n) 5
def zstr (n : Nat) : ByteArray := strOfNums (List.replicate n 0)
theorem zstr_size (n : Nat) : (zstr n).size = n := by unfold zstr; rw [strOfNums_size]; simp
theorem run_make_u8 (n : Nat) (hn : n ≤ 1000) (W : World) :
    (Instr.makeSlice 42 (.int .i64 (n : Int)) (.int .i64 (n : Int))).run Tryd.prog W = .ok (.slice (some ⟨W.heap.size, 0, none⟩) n n) (W.alloc (zeros n)) := by
  obtain ⟨i0, hi, hz0, hz1, hz2⟩ := info_parts u8row
  have := run_make (P := Tryd.prog) W 42 5 i0 (.int .u8 0) Tryd.underlying42 hi hz0 .i64 .i64 n n (by omega) (by omega) (by rw [hz2]; omega) (by omega)
  rw [this, hz1]
  simp [zeros]
theorem run_str (b n cap : Nat) (xs : List Int) (W : World) (hx : xs.length = n) (hc : ∀ i, i < n → W.cell? ⟨b, 0 + i, none⟩ = some (.int .u8 (xs.getD i 0))) :
    (convert 42 9 (.slice (some ⟨b, 0, none⟩) n cap)).run Tryd.prog W = .ok (.string (strOfNums xs)) W :=
  run_convert_bytes_arg (P := Tryd.prog) W 42 5 Tryd.underlying42 Tryd.underlying5 b 0 n cap xs hx hc 9 Tryd.underlying9
theorem run_zstr (n : Nat) (W : World) : (convert 42 9 (.slice (some ⟨W.heap.size, 0, none⟩) n n)).run Tryd.prog (W.alloc (zeros n)) = .ok (.string (zstr n)) (W.alloc (zeros n)) := by
  refine run_str W.heap.size n n _ _ (by simp) fun i hi => ?_
  unfold zeros
  rw [Nat.zero_add, World.cell?_alloc_new, ← Array.getElem?_toList, show (Value.int .u8 0).cells = #[Value.int .u8 0] from rfl, toList_madeCells_one]
  simp [hi, List.getD]

abbrev ex4 : ByteArray := ⟨#[249, 3, 63, 1, 28, 249]⟩
theorem enc4a : encR4 0 true 1 true 0 0 ⟨#[]⟩ true 31 = .returned (.tuple #[.string ex4, .int .i64 0]) := by rfl
theorem enc4b : encR4 0 true 2 false 0 0 ⟨#[]⟩ true 31 = .returned (.tuple #[.string ⟨#[]⟩, .int .i64 2]) := by rfl
theorem enc4c : encR4 1 true 5 false 0 0 (zstr 128) true 127 = .returned (.tuple #[.string ⟨#[]⟩, .int .i64 3]) := by
  have h : mayOk 1 true 5 0 0 (zstr 128) = true := by
    unfold mayOk
    rw [zstr_size]
    rfl
  unfold encR4
  rw [h, if_neg (by decide), zstr_size, if_pos (by decide)]
theorem dec4a : decT4 ⟨#[3, 63, 1, 28]⟩ true 31 = .returned (.tuple #[frV 0 true 1 true 0 0 ⟨#[]⟩, .int .i64 0]) := by rfl
theorem dec4b : decT4 ⟨#[3, 63, 1, 29]⟩ true 31 = bad 41 := by rfl
theorem dec4c : decT4 ⟨#[3, 63, 3, 28]⟩ true 31 = bad 40 := by rfl

theorem enc4a_any (w : World) (hh : Octs w) (hf : Half w) :
    Calls Tryd.prog 17 #[.agg #[.int .u8 0, .bool true, .int .u8 1, .bool true, .int .u8 0, .int .u8 0, .string ⟨#[]⟩], .bool true, .int .i64 31] w fun e w' => e = .returned (.tuple #[.string ex4, .int .i64 0]) ∧ Below w.heap.size w w' := by
  have := bencode_any 0 1 0 0 true true ⟨#[]⟩ true 31 w hh hf (by omega) (by omega) (by omega) (by omega) (by decide)
  rw [enc4a] at this
  exact this
theorem enc4b_any (w : World) (hh : Octs w) (hf : Half w) :
    Calls Tryd.prog 17 #[.agg #[.int .u8 0, .bool true, .int .u8 2, .bool false, .int .u8 0, .int .u8 0, .string ⟨#[]⟩], .bool true, .int .i64 31] w fun e w' => e = .returned (.tuple #[.string ⟨#[]⟩, .int .i64 2]) ∧ Below w.heap.size w w' := by
  have := bencode_any 0 2 0 0 true false ⟨#[]⟩ true 31 w hh hf (by omega) (by omega) (by omega) (by omega) (by decide)
  rw [enc4b] at this
  exact this
theorem enc4c_any (w : World) (hh : Octs w) (hf : Half w) :
    Calls Tryd.prog 17 #[.agg #[.int .u8 1, .bool true, .int .u8 5, .bool false, .int .u8 0, .int .u8 0, .string (zstr 128)], .bool true, .int .i64 127] w fun e w' => e = .returned (.tuple #[.string ⟨#[]⟩, .int .i64 3]) ∧ Below w.heap.size w w' := by
  have := bencode_any 1 5 0 0 true false (zstr 128) true 127 w hh hf (by omega) (by omega) (by omega) (by omega) (by rw [zstr_size]; unfold maxLen; omega)
  rw [enc4c] at this
  exact this

/-- What Decode answers is a frame and a number. -/
theorem decT4_form (t : ByteArray) (b : Bool) (n1 : Int) : ∃ d c k p s r i e, decT4 t b n1 = .returned (.tuple #[frV d c k p s r i, .int .i64 e]) ∧ d ≤ 255 ∧ k ≤ 255 ∧ s ≤ 255 ∧ r ≤ 255 ∧ i.size ≤ t.size ∧ (e ≠ 0 → d = 0 ∧ c = false ∧ k = 0 ∧ p = false ∧ s = 0 ∧ r = 0 ∧ i = ⟨#[]⟩) := by
  unfold decT4
  have ha := oc_lt t 0
  have hc := oc_lt t 1
  have hk := gk_le (oc t 1)
  have hs := gs_le (oc t 1)
  have hr := gr_le (oc t 1) hc
  have hi : (t.extract (hdN t) (t.size - 1)).size ≤ t.size := by rw [ByteArray.size_extract]; omega
  repeat' split
  all_goals first
    | exact ⟨0, false, 0, false, 0, 0, ⟨#[]⟩, _, rfl, by omega, by omega, by omega, by omega, Nat.zero_le _, fun _ => ⟨rfl, rfl, rfl, rfl, rfl, rfl, rfl⟩⟩
    | exact ⟨_, _, _, _, _, _, _, 0, rfl, by omega, by omega, by omega, by omega, hi, fun h => absurd rfl h⟩
theorem encR4_form (d : Nat) (c : Bool) (k : Nat) (p : Bool) (s r : Nat) (i : ByteArray) (b : Bool) (n1 : Int) : ∃ x e, encR4 d c k p s r i b n1 = .returned (.tuple #[.string x, .int .i64 e]) := by
  unfold encR4
  split
  · exact ⟨_, _, rfl⟩
  · split <;> exact ⟨_, _, rfl⟩

end Go.Proofs.YtnnimkailajgaaaDoor.Bs
