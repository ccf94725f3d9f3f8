/- The walk of the law ClSplit: it answers true. -/
import Derived.Test.YtkgdnpodohpppaaClWorks
import Derived.Deep.AppendLies
namespace Go.Proofs.Ytkgdnpodohpppaa
open Go.RowKit
set_option linter.unusedVariables false
set_option linter.unusedSimpArgs false

/-- What both Splits leave: a row of the call's own, and the error. -/
def SplitG (f : Nat → ByteArray) (N : Nat) (E : Int) (w : World) (e : Ending) (w' : World) : Prop :=
  ∃ v, e = .returned (.tuple #[v, .int .i64 E]) ∧ w'.ownsRow w.heap.size 9 1 v N (strs f N) ∧ Below w.heap.size w w'
theorem SplitG.open_ {f : Nat → ByteArray} {N : Nat} {E : Int} {w : World} {e : Ending} {w' : World} (h : SplitG f N E w e w') :
    ∃ a c, e = .returned (.tuple #[.slice a N c, .int .i64 E]) ∧ w'.ownsRow w.heap.size 9 1 (.slice a N c) N (strs f N) ∧ HoldsS w' a N f ∧ Below w.heap.size w w' := by
  obtain ⟨v, rfl, hrow, hb⟩ := h
  obtain ⟨a, c, rfl, hh⟩ := ownsRow_holdsS hrow
  exact ⟨a, c, rfl, hrow, hh, hb⟩
theorem size_ex (n1 : Int) (h : 2 ≤ n1) : ∃ size : Nat, (size : Int) = min n1 128 - 1 ∧ 1 ≤ size ∧ size ≤ 127 := ⟨(min n1 128 - 1).toNat, by omega, by omega, by omega⟩
theorem splits (s : ByteArray) (n1 : Int) (hn : n1 ≤ 9223372036854775807) (hs : s.size ≤ 1000000) : ∃ f N E, N ≤ 1000001 ∧
    (∀ w, Calls Try.prog 10 #[.string s, .int .i64 n1] w (SplitG f N E w)) ∧ (∀ w, Calls Try.prog 9 #[.string s, .int .i64 n1] w (SplitG f N E w)) := by
  by_cases h : n1 < 2
  · refine ⟨fun _ => ⟨#[]⟩, 0, 2, by omega, fun w => (split_no s n1 w h).mono ?_, fun w => (rsplit_no s n1 w h).mono ?_⟩
    all_goals
      rintro e w' ⟨rfl, rfl⟩
      exact ⟨_, rfl, World.ownsRow_nil _ _ _ _, Below.refl _ _⟩
  · obtain ⟨size, hz, _, _⟩ := size_ex n1 (by omega)
    exact ⟨pc s size, pcN s.size size, 0, pcN_le _ _ hs, fun w => (split_ok s n1 size w (by omega) hn hz hs).mono fun _ _ h => h, fun w => (rsplit_ok s n1 size w (by omega) hn hz hs).mono fun _ _ h => h⟩

set_option maxHeartbeats 2000000 in
theorem clSplit_any (s : ByteArray) (n1 : Int) (w : World) (hn : n1 ≤ 9223372036854775807) (hs' : s.size ≤ maxLen) :
    Calls Try.prog 3 #[.string s, .int .i64 n1] w fun e w' => e = .returned (.bool true) ∧ Below w.heap.size w w' := by
  unfold maxLen at hs'
  by_cases hs : 1000 < s.size
  · go_enter Try.func3, Try.ntmps3
    go_wp2_with fail
    refine (works_any _).mono ?_
    rintro e w1 ⟨rfl, hb⟩
    go_wp2
    go_ret
    exact ⟨rfl, hb⟩
  · obtain ⟨f, N, E, hN, hS, hR⟩ := splits s n1 hn (by omega)
    have HS := hide hS
    have HR := hide hR
    clear hS hR
    go_enter Try.func3, Try.ntmps3
    go_wp2_with fail
    refine (HR.out _).mono ?_
    intro e w1 h
    obtain ⟨a, c, rfl, hrow, hh, hb⟩ := h.open_
    clear h hrow
    go_wp2
    go_loopw [7] (fun t wr => ∃ k : Nat, k ≤ 2 ∧ t = .int .i64 (k : Int) ∧ HoldsS wr a N f ∧ Below w.heap.size w wr) (fun t _ => 2 - (intOf t).toNat)
    case atStart => exact ⟨0, by omega, rfl, hh, hb⟩
    case round =>
      obtain ⟨k, hk, rfl, hh', hb'⟩ := hrel
      clear hh hb
      by_cases hlt : k < 2
      · have e3 : (k : Int) < 2 := by omega
        go_wp2_with fail
        refine (HS.out _).mono ?_
        intro e w2 h
        obtain ⟨a2, c2, rfl, hrow2, hh2, hb2⟩ := h.open_
        clear h
        have hh1 := hh'.below hb2
        go_wp2_with fail
        refine (sameT_any _ _ N _ _ f _ (by omega) hh2 hh1).mono ?_
        rintro e w3 ⟨rfl, s3⟩
        have hrow3 : w3.ownsRow wr.heap.size 9 1 (.slice a2 N c2) N (strs f N) := by obtain ⟨m, rfl⟩ := s3; exact hrow2
        have hb3 : Below wr.heap.size wr w3 := Below.still hb2 s3
        clear hrow2 hh2 hb2 hh1 s3
        go_wp2
        obtain ⟨wo, rfl⟩ : ∃ wo : World, wo = wr := ⟨_, rfl⟩
        go_loopw [10] (fun i wi => ∃ j : Nat, ∃ xs, j ≤ N ∧ i = .int .i64 (j : Int) ∧ wi.ownsRow wo.heap.size 9 1 (.slice a2 N c2) N xs ∧ Below wo.heap.size wo wi) (fun i _ => N - (intOf i).toNat)
        case atStart => exact ⟨0, _, by omega, rfl, hrow3, hb3⟩
        case round =>
          obtain ⟨j, xs, hj, rfl, hrow4, hb4⟩ := hrel
          clear hrow3 hb3
          by_cases hjn : j < N
          · have e4 : (j : Int) < (N : Int) := by omega
            obtain ⟨g, c', hv, hg, hgl⟩ := hrow4.form (by omega)
            injection hv with hv1 hv2 hv3
            subst hv1 hv3
            have hxs : xs.length = N := by have := hrow4.1; omega
            have hc := hrow4.cellAt j (by omega)
            rw [List.getElem?_eq_getElem (by omega)] at hc
            have hfz := hrow4.frozenAt j
            have hst := hrow4.stored j (.string ⟨#[63]⟩)
            go_wp2
            go_roundw
            case rel => exact ⟨j + 1, _, hjn, by go_num, hst.1, hb4.setCell (p := ⟨g, j, none⟩) hg _⟩
            case measure => simp [intOf]; omega
          · obtain rfl : j = N := by omega
            go_wp2
            go_roundw
            case rel => exact ⟨k + 1, hlt, by go_num, hh'.below hb4, below_step hb' (Nat.le_refl _) hb4⟩
            case measure => simp [intOf]; omega
      · obtain rfl : k = 2 := by omega
        go_wp2_with fail
        refine (works_any _).mono ?_
        rintro e w2 ⟨rfl, hb2⟩
        go_wp2
        go_ret
        exact ⟨rfl, below_step hb' (Nat.le_refl _) hb2⟩

theorem clSplit_law (s : ByteArray) (n1 : Int) (w : World) (hs : s.size ≤ maxLen) (h1 : -9223372036854775808 ≤ n1) (h2 : n1 ≤ 9223372036854775807) :
    Calls Try.prog 3 #[.string s, .int .i64 n1] w fun e w' => e = .returned (.bool true) ∧ Below w.heap.size w w' := clSplit_any s n1 w h2 hs

end Go.Proofs.Ytkgdnpodohpppaa
