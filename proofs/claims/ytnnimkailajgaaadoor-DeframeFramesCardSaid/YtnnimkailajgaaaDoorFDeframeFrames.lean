/- The law DeframeFrames: for every input it returns true, and each argument reads as it did; the tables that it reads lie as the program's text lays them (the card). The walk is deframeFrames_any; this text carries it into the row and closes the card. -/
import Derived.Test.YtnnimkailajgaaaDoorCards
import Derived.Test.YtnnimkailajgaaaDoorTie
import Derived.Test.YtnnimkailajgaaaDoorDfFrames
import Derived.WalkKit
import Derived.ProofKit
import Derived.OpenShut
import Derived.ShutString
import Derived.Below
import Derived.Deep.DeepHandedRow
import Derived.Lib.LaidTab
namespace Go.Proofs.YtnnimkailajgaaaDoor.deframeFrames
open Go.ChangeShapes Go.WideShapes Go.ChangeAt Go.RowKit
open Go.ChangeMaps (open_string shut_string)
set_option linter.unusedVariables false
set_option linter.unusedSimpArgs false

theorem own : ownKnob Tryd.prog.godebug = none := by kernel_rfl
theorem laidOut : laidOutB Tryd.prog = true := by kernel_rfl

theorem gTab0 : Tryd.prog.globalNamed "partyline/fcs.half" = some 1 := by kernel_rfl
theorem gTabType0 : (Tryd.prog.globals[1]?).map (·.type) = some 79 := by kernel_rfl
theorem gCells0 : Tryd.prog.cellsOf 79 = 16 := by kernel_rfl
theorem gTab1 : Tryd.prog.globalNamed "partyline/field.octets" = some 0 := by kernel_rfl
theorem gTabType1 : (Tryd.prog.globals[0]?).map (·.type) = some 73 := by kernel_rfl
theorem gCells1 : Tryd.prog.cellsOf 73 = 11 := by kernel_rfl
theorem cellsByte : Tryd.prog.cellsOf 5 = 1 := by kernel_rfl

theorem table0 {W : World} (h : laidMetH Tryd.prog Rows.deframeFramesRow.laid W) : Lib.TabIs Tryd.prog W "partyline/fcs.half" .u8 [0, 28, 56, 36, 112, 108, 72, 84, 224, 252, 216, 196, 144, 140, 168, 180] := by
  exact Lib.tabIs_of_head (rest := Rows.deframeFramesRow.laid.tail) gTab0 gTabType0 Tryd.underlying79 Tryd.underlying5 cellsByte gCells0 h
theorem table1 {W : World} (h : laidMetH Tryd.prog Rows.deframeFramesRow.laid W) : Lib.TabIs Tryd.prog W "partyline/field.octets" .u8 [0, 47, 99, 15, 67, 239, 3, 0, 1, 5, 9] := by
  have h' : laidMet Tryd.prog Rows.deframeFramesRow.laid W := h
  obtain ⟨ps, ⟨g, t, cs, fuel, p, q, _, _, _, _, hr, rfl⟩, hnd, hc⟩ := h'
  exact Lib.tabIs_of_head (rest := []) gTab1 gTabType1 Tryd.underlying73 Tryd.underlying5 cellsByte gCells1 ⟨q, hr, (List.nodup_append.1 hnd).2.1, fun b off hb => hc b off (List.mem_append.2 (Or.inr hb))⟩
theorem fact0 {W : World} (h : laidMetH Tryd.prog Rows.deframeFramesRow.laid W) : Half W := by
  intro i hi
  have hc := (table0 h).cell gTab0 i (by simpa using hi)
  rw [hc]
  congr 2
  exact (show ∀ i, i < 16 → ([0, 28, 56, 36, 112, 108, 72, 84, 224, 252, 216, 196, 144, 140, 168, 180] : List Int).getD i 0 = ((halfT.getD i 0 : Nat) : Int) by decide) i hi
theorem fact1 {W : World} (h : laidMetH Tryd.prog Rows.deframeFramesRow.laid W) : Octs W := by
  intro i hi
  have hc := (table1 h).cell gTab1 i (by simpa using hi)
  rw [hc]
  congr 2
  exact (show ∀ i, i < 11 → ([0, 47, 99, 15, 67, 239, 3, 0, 1, 5, 9] : List Int).getD i 0 = ((octT.getD i 0 : Nat) : Int) by decide) i hi

set_option maxRecDepth 100000 in
theorem contract (H : Type) (enc : TypeId × Value → H) (W : World) (base : Nat) (args : Array Value) (ds gs : List (DataW H)) (before : List MemPlace)
    (hval : ∀ (j : Nat) t v, Tryd.f3.params[j]? = some t → args[j]? = some v → Value.okWide Tryd.prog W .any base t v)
    (hW : DataW.Whole enc Tryd.prog Tryd.f3.params.toList Rows.deframeFramesSpec.vars false W args.toList ds gs before) (hL : laidMetH Tryd.prog Rows.deframeFramesRow.laid W) :
    Calls Tryd.prog 3 args W fun e W' => ∃ v, e = .returned v ∧ Rows.deframeFramesSpec.post enc Tryd.prog Tryd.f3 false true false false W args v W' := by
  have hW' := hW
  obtain ⟨p, q, hA0, hV, rfl, hfz, hnd⟩ := hW
  have hA : DataW.TrodAll enc Tryd.prog W 0 (fun _ => true) true Tryd.f3.params.toList args.toList ds p := hA0
  rw [Tryd.params3] at hA hval
  obtain ⟨v0, vs0, d0, ds0, p0, q0, hargs, rfl, rfl, h0, r0⟩ := trodAll_cons hA
  obtain ⟨v1, vs1, d1, ds1, p1, q1, rfl, rfl, rfl, h1, r1⟩ := trodAll_cons r0
  obtain ⟨v2, vs2, d2, ds2, p2, q2, rfl, rfl, rfl, h2, r2⟩ := trodAll_cons r1
  obtain ⟨rfl, rfl, rfl⟩ := trodAll_nil r2
  obtain rfl : args = #[v0, v1, v2] := by cases args; simp_all
  obtain ⟨rfl, rfl⟩ := trodVars_none hV
  have k0 := h0
  obtain ⟨a0', i0', n0', rfl, rfl⟩ := open_row06 (hval 0 23 v0 rfl rfl) h0
  obtain ⟨a1, len1, cap1, rfl⟩ := okWide_slice Tryd.underlying24 (hval 1 24 v1 rfl rfl)
  have k1 := h1
  have lt1 : ∀ x ∈ p1, x.block < W.heap.size := by obtain ⟨m, hm⟩ := k1; exact DataW.trod_lt m _ _ _ hm
  obtain ⟨z1, w1, b1⟩ := frames_open h1
  obtain ⟨a2, len2, cap2, rfl⟩ := okWide_slice Tryd.underlying25 (hval 2 25 v2 rfl rfl)
  have k2 := h2
  have lt2 : ∀ x ∈ p2, x.block < W.heap.size := by obtain ⟨m, hm⟩ := k2; exact DataW.trod_lt m _ _ _ hm
  obtain ⟨z2, w2, b2⟩ := bools_open h2
  clear hA0
  refine (deframeFrames_any a0' i0' n0' a1 len1 cap1 z1 a2 len2 cap2 z2 W (fact1 hL) (fact0 hL) w1 b1 w2 b2).mono fun e W' ⟨he, bel⟩ => ?_
  subst he
  exact ⟨_, rfl, _, _, _, [], _, [], hW', trodAll_mk1 (shut_bool Tryd.underlying4 _), (trodAll_cons_mk (Below.trod laidOut (by kernel_rfl) (of_decide_eq_true (by kernel_rfl)) k0 bel (fun x hx => by cases hx)) (trodAll_cons_mk (Below.trod laidOut (by kernel_rfl) (of_decide_eq_true (by kernel_rfl)) k1 bel lt1) (trodAll_cons_mk (Below.trod laidOut (by kernel_rfl) (of_decide_eq_true (by kernel_rfl)) k2 bel lt2) trodAll_mk0))), rfl, bel.frame _, fun h => by cases h⟩

noncomputable def laidWorld (os : Os) : World :=
  { World.holding Tryd.prog os ⟨#[], #[], []⟩ with heap := (((World.holding Tryd.prog os ⟨#[], #[], []⟩).heap.modify 1 (fun
      | .cells _ t frozen => .cells #[.int .u8 0, .int .u8 28, .int .u8 56, .int .u8 36, .int .u8 112, .int .u8 108, .int .u8 72, .int .u8 84, .int .u8 224, .int .u8 252, .int .u8 216, .int .u8 196, .int .u8 144, .int .u8 140, .int .u8 168, .int .u8 180] t frozen
      | o => o)).modify 0 (fun
      | .cells _ t frozen => .cells #[.int .u8 0, .int .u8 47, .int .u8 99, .int .u8 15, .int .u8 67, .int .u8 239, .int .u8 3, .int .u8 0, .int .u8 1, .int .u8 5, .int .u8 9] t frozen
      | o => o)) }
theorem laid_met (os : Os) : laidMet Tryd.prog Rows.deframeFramesRow.laid ((laidWorld os).forCall (fun _ _ => 0) ⟨#[], #[.agg #[.bool false, .bool false, .int .i64 0], .slice none 0 0, .slice none 0 0], []⟩).memory :=
  laidMet_of_run' 8 (by kernel_rfl) (by kernel_rfl)
theorem reads (os : Os) {H : Type} (enc : TypeId × Value → H) : ∃ places, DataW.whole enc Tryd.prog ((laidWorld os).forCall (fun _ _ => 0) ⟨#[], #[.agg #[.bool false, .bool false, .int .i64 0], .slice none 0 0, .slice none 0 0], []⟩).memory Tryd.f3.params.toList Rows.deframeFramesSpec.vars false (#[.agg #[.bool false, .bool false, .int .i64 0], .slice none 0 0, .slice none 0 0] : Array Value).toList 8 = some ([.agg [.lit (.bool false), .lit (.bool false), .lit (.int .i64 0)], .nil, .nil], [], places) :=
  ⟨[], by kernel_rfl⟩

set_option maxRecDepth 100000 in
theorem lifted (os : Os) (started : os.Started) (H : Type) (enc : TypeId × Value → H) (F : Stop.Interp) :
    ReturnsInHanded {} Tryd.checked os 3 .any ((OpenSpec.ofChange Rows.deframeFramesSpec).preRow enc Tryd.prog Tryd.f3 Rows.deframeFramesRow.domain false Rows.deframeFramesRow.laid) (((OpenSpec.ofChange Rows.deframeFramesSpec).at F).post enc Tryd.prog Tryd.f3 false true false false) := by
  obtain ⟨places, hx⟩ := reads os enc
  refine returnsInHanded_of_row (C := Tryd.checked) (s := OpenSpec.ofChange Rows.deframeFramesSpec) own started (by kernel_rfl) Tryd.func3
    (witness_row_at (enc := enc) (C := Tryd.checked) false (laidWorld os) #[.agg #[.bool false, .bool false, .int .i64 0], .slice none 0 0, .slice none 0 0] rfl (by kernel_rfl) (by kernel_rfl) (by kernel_rfl)
      (OpenSpec.preRow_of_cond 8 hx (by kernel_rfl) (fun k hk => by cases hk) (by kernel_rfl) (laid_met os))) ?_
  intro W base args ds gs before hval hW _ _ _ hL _ _
  exact contract H enc W base args ds gs before hval hW hL

theorem said : Rows.DeframeFramesSaid :=
  OpenClaim.holds_of_cond 3 Tryd.f3 rfl rfl rfl rfl rfl rfl rfl ⟨rfl, rfl, rfl, rfl, rfl⟩ rfl rfl rfl rfl rfl (by kernel_rfl) Tryd.func3 (by kernel_rfl)
    (of_decide_eq_true (by kernel_rfl)) (by unfold Func.isWrapper; first | (rw [if_pos (by decide +kernel)]; kernel_rfl) | (rw [if_neg (by decide +kernel)]; exact ⟨rfl, rfl⟩))
    (fun os started H enc _ F => by rw [OpenClaim.pre_eq_preRow]; exact lifted os started H enc F)

theorem plain (f : FuncId) (fn : Func) (hf : Tryd.pinned.checked.prog.funcNamed "partyline/partylinelaw06.DeframeFrames" = some f) (hfn : Tryd.pinned.checked.prog.funcs[f]? = some fn) :
    false = Tryd.pinned.checked.prog.looks [] ∧ ∀ (j : Nat) t, fn.params[j]? = some t → Tryd.pinned.checked.prog.wantsStandIn t = false := by
  obtain rfl : f = 3 := Option.some.inj ((show Tryd.prog.funcNamed "partyline/partylinelaw06.DeframeFrames" = some 3 by kernel_rfl).symm.trans hf) |>.symm
  obtain rfl : fn = Tryd.f3 := (Option.some.inj (Tryd.func3.symm.trans hfn)).symm
  refine ⟨by kernel_rfl, fun j t ht => ?_⟩
  rw [Tryd.params3] at ht
  have hm := Array.mem_of_getElem? ht
  simp only [List.mem_toArray, List.mem_cons, List.not_mem_nil, or_false] at hm
  rcases hm with rfl | rfl | rfl
  · exact (show Tryd.prog.wantsStandIn 23 = false by kernel_rfl)
  · exact (show Tryd.prog.wantsStandIn 24 = false by kernel_rfl)
  · exact (show Tryd.prog.wantsStandIn 25 = false by kernel_rfl)

theorem card : Rows.DeframeFramesCardSaid :=
  Claim7.holds_tied_plain_at .later [] _ _ _ _ said (fun _ h => by cases h) (by kernel_rfl) (fun _ h => by cases h) deframeFrames_row_tie rfl ⟨rfl, rfl⟩ (by kernel_rfl) rfl plain (by kernel_rfl)
#print axioms card
end Go.Proofs.YtnnimkailajgaaaDoor.deframeFrames
