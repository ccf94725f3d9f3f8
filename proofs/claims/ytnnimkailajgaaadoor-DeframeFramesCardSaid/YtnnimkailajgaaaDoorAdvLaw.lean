/- Chapter 5's examples, and the walks of the laws AdvancedEncode, AdvancedDecode, AdvancedStuff. -/
import Derived.Test.YtnnimkailajgaaaDoorAdvDec2
namespace Go.Proofs.YtnnimkailajgaaaDoor
open Go.RowKit
set_option linter.unusedVariables false
set_option linter.unusedSimpArgs false

theorem decode_any (s : ByteArray) (b : Bool) (n1 : Int) (w : World) (hh : Octs w) (hf : Half w) (hs : s.size ≤ 100000) :
    Calls Tryd.prog 24 #[.string s, .bool b, .int .i64 n1] w fun e w' => e = decR s b n1 ∧ Below w.heap.size w w' := by
  cases hu : unst (bl s) with
  | none => rw [decR_none b n1 hu]; exact decode_none s b n1 w hs hu
  | some l => rw [decR_some b n1 hu]; exact decode_some s l b n1 w hh hf hs hu
/-- What Decode answers is a frame and a number. -/
theorem bad_frame (e : Int) : bad e = .returned (.tuple #[frV 0 false 0 false 0 0 ⟨#[]⟩, .int .i64 e]) := rfl
theorem decT_form (t : ByteArray) (b : Bool) (n1 : Int) : ∃ d c k p s r i e, decT t b n1 = .returned (.tuple #[frV d c k p s r i, .int .i64 e]) ∧ d ≤ 255 ∧ k ≤ 255 ∧ s ≤ 255 ∧ r ≤ 255 ∧ (e ≠ 0 → decT t b n1 = bad e) := by
  unfold decT
  have ha := oc_lt t 0
  have hc := oc_lt t 1
  have hk := gk_le (oc t 1)
  have hs := gs_le (oc t 1)
  have hr := gr_le (oc t 1) hc
  repeat' split
  all_goals first
    | exact ⟨0, false, 0, false, 0, 0, ⟨#[]⟩, _, rfl, by omega, by omega, by omega, by omega, fun _ => rfl⟩
    | exact ⟨_, _, _, _, _, _, _, 0, rfl, by omega, by omega, by omega, by omega, fun h => absurd rfl h⟩
theorem decR_form (s : ByteArray) (b : Bool) (n1 : Int) : ∃ d c k p s' r i e, decR s b n1 = .returned (.tuple #[frV d c k p s' r i, .int .i64 e]) ∧ d ≤ 255 ∧ k ≤ 255 ∧ s' ≤ 255 ∧ r ≤ 255 ∧ (e ≠ 0 → decR s b n1 = bad e) := by
  cases hu : unst (bl s) with
  | none => exact ⟨0, false, 0, false, 0, 0, ⟨#[]⟩, 40, by rw [decR_none b n1 hu]; rfl, by omega, by omega, by omega, by omega, fun _ => decR_none b n1 hu⟩
  | some l => rw [decR_some b n1 hu]; exact decT_form _ b n1
theorem encR_form (d : Nat) (c : Bool) (k : Nat) (p : Bool) (s r : Nat) (i : ByteArray) (b : Bool) (n1 : Int) : ∃ x e, encR d c k p s r i b n1 = .returned (.tuple #[.string x, .int .i64 e]) := by
  unfold encR
  split
  · exact ⟨_, _, rfl⟩
  · split <;> exact ⟨_, _, rfl⟩

abbrev ex5 : ByteArray := ⟨#[126, 7, 63, 137, 126]⟩
theorem enc5 : encR 1 true 1 true 0 0 ⟨#[]⟩ true 31 = .returned (.tuple #[.string ex5, .int .i64 0]) := by rfl
theorem dec5 : decR ⟨#[7, 63, 137]⟩ true 31 = .returned (.tuple #[frV 1 true 1 true 0 0 ⟨#[]⟩, .int .i64 0]) := by rfl
theorem un5 : unR ⟨#[125, 65]⟩ = .returned (.tuple #[.string ⟨#[]⟩, .bool false]) := unR_none (by rfl)
theorem st5 : st (stuff (bl ⟨#[126, 1, 125]⟩)) = ⟨#[125, 94, 1, 125, 93]⟩ := by rfl
theorem cut5a : ex5.extract 0 3 = ⟨#[126, 7, 63]⟩ := by rfl
theorem cut5b : ex5.extract 1 4 = ⟨#[7, 63, 137]⟩ := by rfl

theorem enc_a (w : World) (hh : Octs w) (hf : Half w) :
    Calls Tryd.prog 16 #[.agg #[.int .u8 1, .bool true, .int .u8 1, .bool true, .int .u8 0, .int .u8 0, .string ⟨#[]⟩], .bool true, .int .i64 31] w fun e w' => e = .returned (.tuple #[.string ex5, .int .i64 0]) ∧ Below w.heap.size w w' := by
  have := encode_any 1 1 0 0 true true ⟨#[]⟩ true 31 w hh hf (by omega) (by omega) (by omega) (by omega) (by decide)
  rw [enc5] at this
  exact this

end Go.Proofs.YtnnimkailajgaaaDoor
