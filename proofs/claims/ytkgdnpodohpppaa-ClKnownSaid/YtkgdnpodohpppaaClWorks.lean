/- SameTexts, New, Within, and the chapter's examples. -/
import Derived.Test.YtkgdnpodohpppaaClRef
import Derived.Test.YtkgdnpodohpppaaClJoin
namespace Go.Proofs.Ytkgdnpodohpppaa
open Go.RowKit
set_option linter.unusedVariables false
set_option linter.unusedSimpArgs false

/-- What a slice of strings holds: nothing is asked of an empty one. -/
def HoldsS (w : World) (a : Option Addr) (n : Nat) (f : Nat → ByteArray) : Prop :=
  0 < n → ∃ g o, a = some ⟨g, o, none⟩ ∧ g < w.heap.size ∧ ∀ j, j < n → w.cell? ⟨g, o + j, none⟩ = some (.string (f j))
theorem HoldsS.alloc {w : World} {a : Option Addr} {n : Nat} {f : Nat → ByteArray} (h : HoldsS w a n f) (o : Obj) : HoldsS (w.alloc o) a n f := fun hp => by
  obtain ⟨g, o', rfl, hg, hc⟩ := h hp
  exact ⟨g, o', rfl, by simp; omega, fun j hj => by rw [World.cell?_alloc_lt _ _ _ hg]; exact hc j hj⟩
theorem HoldsS.drewN {w : World} {a : Option Addr} {n : Nat} {f : Nat → ByteArray} (h : HoldsS w a n f) (m : Nat) : HoldsS (w.drewN m) a n f := h
theorem HoldsS.below {w w' : World} {a : Option Addr} {n : Nat} {f : Nat → ByteArray} (h : HoldsS w a n f) (hb : Below w.heap.size w w') : HoldsS w' a n f := fun hp => by
  obtain ⟨g, o', rfl, hg, hc⟩ := h hp
  exact ⟨g, o', rfl, Nat.lt_of_lt_of_le hg hb.size, fun j hj => by rw [hb.cell (p := ⟨g, o' + j, none⟩) hg]; exact hc j hj⟩
theorem ownsRow_holdsS {w : World} {B n : Nat} {v : Value} {f : Nat → ByteArray} {e : TypeId} (h : w.ownsRow B e 1 v n (strs f n)) : ∃ a c, v = .slice a n c ∧ HoldsS w a n f := by
  rcases h.2 with ⟨rfl, h0⟩ | ⟨g, cap, cur, rfl, _, hg, _⟩
  · exact ⟨none, 0, by rw [h0], fun hp => by omega⟩
  · refine ⟨some ⟨g, 0, none⟩, cap, rfl, fun _ => ⟨g, 0, rfl, (Array.getElem?_eq_some_iff.1 hg).1, fun j hj => ?_⟩⟩
    rw [Nat.zero_add, h.cellAt j (by omega)]
    simp [strs, List.getElem?_range hj]
theorem holdsS_new (w : World) (cs : Array Value) (e : TypeId) (n : Nat) (f : Nat → ByteArray) (h : cs = (strs f n).toArray) :
    HoldsS (w.alloc (.cells cs e)) (some ⟨w.heap.size, 0, none⟩) n f := fun _ =>
  ⟨w.heap.size, 0, rfl, by simp, fun j hj => by rw [Nat.zero_add, World.cell?_alloc_new, h]; simp [strs, List.getElem?_range hj]⟩

set_option maxHeartbeats 1000000 in
theorem sameT_any (a b : Option Addr) (n c d : Nat) (f : Nat → ByteArray) (w : World) (hn : n ≤ 2000000) (ha : HoldsS w a n f) (hb : HoldsS w b n f) :
    Calls Try.prog 11 #[.slice a n c, .slice b n d] w fun e w' => e = .returned (.bool true) ∧ Still w w' := by
  go_enter Try.func11, Try.ntmps11
  go_wp2
  go_loopw [5] (fun i wr => ∃ k : Nat, k ≤ n ∧ i = .int .i64 (k : Int) ∧ Still w wr) (fun i _ => n - (intOf i).toNat)
  case atStart => exact ⟨0, Nat.zero_le _, rfl, 0, rfl⟩
  case round =>
    obtain ⟨k, hk, rfl, m, rfl⟩ := hrel
    by_cases hlt : k < n
    · obtain ⟨g, o, rfl, hg, hc⟩ := ha (by omega)
      obtain ⟨g', o', rfl, hg', hc'⟩ := hb (by omega)
      have e1 := hc k hlt
      have e2 := hc' k hlt
      have e3 : (k : Int) < (n : Int) := by omega
      clear hc hc' ha hb
      go_wp2
      go_quiet (fail)
      go_wp2
      go_roundw
      case rel => exact ⟨k + 1, hlt, by go_num, _, rfl⟩
      case measure => simp [intOf]; omega
    · obtain rfl : k = n := by omega
      go_wp2
      go_ret
      exact ⟨rfl, m, rfl⟩

theorem jnew_any (w : World) :
    Calls Try.prog 12 #[] w fun e w' => e = .returned (.pointer (some ⟨w.heap.size, 0, none⟩)) ∧ w' = w.alloc (.cells #[.bool false] 45) := by
  go_enter Try.func12, Try.ntmps12
  go_wp2
  go_ret
  exact ⟨rfl, rfl⟩
theorem join_new (w : World) : JoinAt (w.alloc (.cells #[.bool false] 45)) w.heap.size false := ⟨World.cell?_alloc_new _ _ _ _, World.frozen?_alloc_at _ _ _ _ rfl⟩
theorem jnew_own (w : World) :
    Calls Try.prog 12 #[] w fun e w' => e = .returned (.pointer (some ⟨w.heap.size, 0, none⟩)) ∧ JoinAt w' w.heap.size false ∧ Below w.heap.size w w' :=
  (jnew_any w).mono fun e w' ⟨h1, h2⟩ => ⟨h1, by rw [h2]; exact join_new w, by rw [h2]; exact (Below.refl _ _).alloc (Nat.le_refl _) _⟩
theorem within_any (b : Nat) (I : Bool) (w : World) (h : JoinAt w b I) :
    Calls Try.prog 15 #[.pointer (some ⟨b, 0, none⟩)] w fun e w' => e = .returned (.bool I) ∧ w = w' := by
  have h1 := h.c0
  have h2 := h.f0
  go_enter Try.func15, Try.ntmps15
  go_wp2
  go_ret
  exact ⟨rfl, rfl⟩
theorem within_nil (w : World) :
    Calls Try.prog 15 #[.pointer none] w fun e w' => e = .returned (.bool false) ∧ w = w' := by
  go_enter Try.func15, Try.ntmps15
  go_wp2
  go_ret
  exact ⟨rfl, rfl⟩
theorem jput_nil (s : ByteArray) (w : World) :
    Calls Try.prog 13 #[.pointer none, .string s] w fun e w' => e = .returned (.tuple #[.string ⟨#[]⟩, .bool false, .int .i64 1]) ∧ w = w' := by
  go_enter Try.func13, Try.ntmps13
  go_wp2
  go_ret3
  exact ⟨rfl, rfl⟩

abbrev ab : ByteArray := ⟨#[97, 98, 99, 100, 101]⟩
theorem ab_pieces : strs (pc ab 2) 3 = [.string ⟨#[129, 97, 98]⟩, .string ⟨#[1, 99, 100]⟩, .string ⟨#[65, 101]⟩] := by rfl
theorem no_pieces : strs (pc ⟨#[]⟩ 8) 1 = [.string ⟨#[193]⟩] := by rfl
theorem j1 : joinR false ⟨#[1, 97]⟩ = .returned (.tuple #[.string ⟨#[]⟩, .bool false, .int .i64 4]) := by rfl
theorem j2 : joinR false ⟨#[129, 97]⟩ = .returned (.tuple #[.string ⟨#[97]⟩, .bool false, .int .i64 0]) := by rfl
theorem j3 : joinR true ⟨#[129, 98]⟩ = .returned (.tuple #[.string ⟨#[]⟩, .bool false, .int .i64 4]) := by rfl
theorem i1 : joinI false ⟨#[1, 97]⟩ = false := by rfl
theorem i2 : joinI false ⟨#[129, 97]⟩ = true := by rfl
theorem i3 : joinI true ⟨#[129, 98]⟩ = true := by rfl

theorem split_holds {s : ByteArray} {size : Nat} {w : World} {e : Ending} {w' : World} (h : SplitOk s size w e w') :
    ∃ a c, e = .returned (.tuple #[.slice a (pcN s.size size) c, .int .i64 0]) ∧ HoldsS w' a (pcN s.size size) (pc s size) ∧ Below w.heap.size w w' := by
  obtain ⟨v, rfl, hrow, hb⟩ := h
  obtain ⟨a, c, rfl, hh⟩ := ownsRow_holdsS hrow
  exact ⟨a, c, rfl, hh, hb⟩
theorem join_below {w w' : World} {b : Nat} (h : w.grownBy w' (some b)) {B : Nat} (hB : B ≤ w.heap.size) (hb : B ≤ b) : Below B w w' := (Below.refl B w).grown h hB (fun k e => by cases e; exact hb)

set_option maxRecDepth 100000 in
set_option maxHeartbeats 2000000 in
theorem works_any (w : World) :
    Calls Try.prog 8 #[] w fun e w' => e = .returned (.bool true) ∧ Below w.heap.size w w' := by
  go_enter Try.func8, Try.ntmps8
  go_wp2_with fail
  refine (split_ok ab 3 2 _ (by omega) (by omega) (by decide) (by decide)).mono ?_
  intro e w1 hs
  obtain ⟨a1, c1, rfl, h1, b1⟩ := split_holds hs
  clear hs
  have hn : pcN ab.size 2 = 3 := by decide
  rw [hn] at h1 ⊢
  clear hn
  go_wp2_with fail
  refine (split_ok ⟨#[]⟩ 9 8 _ (by omega) (by omega) (by decide) (by decide)).mono ?_
  intro e w2 hs
  obtain ⟨a2, c2, rfl, h2, b2⟩ := split_holds hs
  clear hs
  have hn : pcN (⟨#[]⟩ : ByteArray).size 8 = 1 := by decide
  rw [hn] at h2 ⊢
  clear hn
  replace h1 := h1.below b2
  have bb := below_step b1 (Nat.le_refl _) b2
  clear b1 b2
  go_wp2_with fail
  refine (jnew_own _).mono ?_
  rintro e w3 ⟨rfl, J3, c3⟩
  go_wp2_with fail
  refine (jput_any _ _ _ _ J3 (by decide)).mono ?_
  rintro e w4 ⟨rfl, J4, g4⟩
  rw [j1]
  rw [i1] at J4
  replace c3 := c3.trans (join_below g4 c3.size (Nat.le_refl _))
  clear g4 J3
  go_wp2_with fail
  refine (jput_any _ _ _ _ J4 (by decide)).mono ?_
  rintro e w5 ⟨rfl, J5, g5⟩
  rw [j2]
  rw [i2] at J5
  replace c3 := c3.trans (join_below g5 c3.size (Nat.le_refl _))
  clear g5 J4
  go_wp2_with fail
  refine (jput_any _ _ _ _ J5 (by decide)).mono ?_
  rintro e w6 ⟨rfl, J6, g6⟩
  rw [j3]
  rw [i3] at J6
  replace c3 := c3.trans (join_below g6 c3.size (Nat.le_refl _))
  clear g6 J5
  replace h1 := h1.below c3
  replace h2 := h2.below c3
  replace bb := below_step bb (Nat.le_refl _) c3
  clear c3
  go_wp2_with fail
  refine (sameT_any _ _ 3 _ _ (pc ab 2) _ (by omega) (h1.alloc _) (holdsS_new _ _ _ 3 _ (by rw [ab_pieces]))).mono ?_
  rintro e w7 ⟨rfl, s7⟩
  have b7 : Below w6.heap.size w6 w7 := Below.still ((Below.refl _ _).alloc (Nat.le_refl _) _) s7
  replace h2 := h2.below b7
  replace J6 := J6.below b7
  replace bb := below_step bb (Nat.le_refl _) b7
  clear b7 s7 h1
  go_wp2_with fail
  refine (sameT_any _ _ 1 _ _ (pc ⟨#[]⟩ 8) _ (by omega) (h2.alloc _) (holdsS_new _ _ _ 1 _ (by rw [no_pieces]))).mono ?_
  rintro e w8 ⟨rfl, s8⟩
  have b8 : Below w7.heap.size w7 w8 := Below.still ((Below.refl _ _).alloc (Nat.le_refl _) _) s8
  replace J6 := J6.below b8
  replace bb := below_step bb (Nat.le_refl _) b8
  clear b8 s8 h2
  go_wp2_with fail
  refine (within_any _ _ _ J6).mono ?_
  rintro e w9 ⟨rfl, rfl⟩
  go_wp2
  go_ret
  exact ⟨rfl, bb⟩

end Go.Proofs.Ytkgdnpodohpppaa
