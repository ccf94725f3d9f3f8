/- The walks of the gate's reference: the row of words, what it says last. -/
import Derived.Test.YtnacjcgnkepacaaGateWalks
namespace Go.Proofs.Ytnacjcgnkepacaa
open Go.RowKit
set_option linter.unusedVariables false
set_option linter.unusedSimpArgs false

set_option maxHeartbeats 400000 in
theorem gstopped_nil (w : World) :
    Calls Try.prog 14 #[.pointer none] w fun e w' => e = .returned (.slice none 0 0) ∧ w = w' := by
  go_enter Try.func14, Try.ntmps14
  go_wp2
  go_ret
  exact ⟨rfl, rfl⟩

theorem gmay_still (b S d : Nat) (C : Bool) (w : World) (h : GateAt w b S C) (hd : d ≤ 255) :
    Calls Try.prog 11 #[.pointer (some ⟨b, 0, none⟩), .int .u8 (d : Int)] w fun e w' => e = .returned (.bool (gmay S C d)) ∧ Still w w' := gmay_any b S d C w h hd
theorem GateAt.still {w w' : World} {b S : Nat} {C : Bool} (h : GateAt w b S C) (k : Still w w') : GateAt w' b S C := h.below k.below

/-- The cells of a row of words. -/
def wcells (l : List (Nat × Bool)) : List Value := l.flatMap fun p => [.int .u8 (p.1 : Int), .bool p.2]
theorem wcells_length (l : List (Nat × Bool)) : (wcells l).length = l.length * 2 := by
  induction l with
  | nil => rfl
  | cons p l ih => unfold wcells at *; rw [List.flatMap_cons, List.length_append, ih, List.length_cons]; simp; omega
theorem wcells_snoc (l : List (Nat × Bool)) (p : Nat × Bool) : wcells (l ++ [p]) = wcells l ++ [.int .u8 (p.1 : Int), .bool p.2] := by
  unfold wcells; rw [List.flatMap_append]; rfl
theorem wcells_get (l : List (Nat × Bool)) (i : Nat) (h : i < l.length) : (wcells l)[i * 2]? = some (.int .u8 (l[i].1 : Int)) ∧ (wcells l)[i * 2 + 1]? = some (.bool l[i].2) := by
  induction l generalizing i with
  | nil => simp at h
  | cons p l ih =>
    have e : wcells (p :: l) = .int .u8 (p.1 : Int) :: .bool p.2 :: wcells l := rfl
    rw [e]
    cases i with
    | zero => exact ⟨rfl, rfl⟩
    | succ i =>
      have h2 := ih i (by simpa using h)
      rw [show (i + 1) * 2 = i * 2 + 1 + 1 by omega]
      exact h2

/-- A reference's gate that lies in a block: its row of words, in a block from B on. -/
def RefAt (w : World) (b B : Nat) (l : List (Nat × Bool)) : Prop :=
  ∃ v, w.cell? ⟨b, 0, none⟩ = some v ∧ w.frozen? ⟨b, 0, none⟩ = false ∧ w.ownsRow B 45 2 v l.length (wcells l)
theorem RefAt.block {w : World} {b B : Nat} {l : List (Nat × Bool)} (h : RefAt w b B l) : b < w.heap.size := by
  obtain ⟨v, h1, _⟩ := h
  exact World.block_lt_of_cell? w ⟨b, 0, none⟩ h1
theorem RefAt.drewN {w : World} {b B : Nat} {l : List (Nat × Bool)} (h : RefAt w b B l) (n : Nat) : RefAt (w.drewN n) b B l := h
theorem RefAt.below {w w' : World} {b B : Nat} {l : List (Nat × Bool)} (h : RefAt w b B l) (hb : Below w.heap.size w w') : RefAt w' b B l := by
  have hlt := h.block
  obtain ⟨v, h1, h2, h3⟩ := h
  refine ⟨v, by rw [hb.cell (p := ⟨b, 0, none⟩) hlt]; exact h1, by rw [hb.frozen (p := ⟨b, 0, none⟩) hlt]; exact h2, ?_⟩
  exact h3.kept (row := none) ⟨hb.os, hb.tape, hb.output, hb.size, fun k hk _ => hb.block k hk⟩ (by cases hv : v.ownBlock <;> simp)
/-- Another block is written that lies ahead of the row's bound. -/
theorem RefAt.other {w w' : World} {b B g : Nat} {l : List (Nat × Bool)} (h : RefAt w b B l) (hb : w.grownBy w' (some g)) (hne : b ≠ g) (hg : g < B) : RefAt w' b B l := by
  have hlt := h.block
  obtain ⟨v, h1, h2, h3⟩ := h
  have hbl := hb.block b hlt (by simpa using hne)
  refine ⟨v, by rw [World.cell?_of_block (w := w) (a := ⟨b, 0, none⟩) hbl]; exact h1, by rw [World.frozen?_of_block (w := w) (a := ⟨b, 0, none⟩) hbl]; exact h2, h3.kept hb (Or.inr ?_)⟩
  intro e
  have := h3.lt g e
  omega

theorem lastW_take (l : List (Nat × Bool)) (k d : Nat) (f : Bool) (hk : k < l.length) : lastW (l.take (k + 1)) d f = if l[k].1 = d then l[k].2 else lastW (l.take k) d f := by
  rw [List.take_succ_eq_append_getElem hk, lastW_snoc]

set_option maxHeartbeats 1000000 in
theorem rlast_any (b B d : Nat) (f : Bool) (l : List (Nat × Bool)) (w : World) (h : RefAt w b B l) (hl : l.length ≤ 1000) (hd : d ≤ 255) (hbytes : ∀ p ∈ l, p.1 ≤ 255) :
    Calls Try.prog 20 #[.pointer (some ⟨b, 0, none⟩), .int .u8 (d : Int), .bool f] w fun e w' => e = .returned (.bool (lastW l d f)) ∧ w = w' := by
  obtain ⟨v, hc, hf, hown⟩ := h
  obtain ⟨a, c, rfl, ha⟩ : ∃ a c, v = .slice a l.length c ∧ (0 < l.length → ∃ g, a = some ⟨g, 0, none⟩ ∧ ∀ i, (hi : i < l.length) → w.cell? ⟨g, i * 2, none⟩ = some (.int .u8 (l[i].1 : Int)) ∧ w.cell? ⟨g, i * 2 + 1, none⟩ = some (.bool l[i].2)) := by
    rcases hown.2 with ⟨rfl, h0⟩ | ⟨g, cap, cur, rfl, _⟩
    · exact ⟨none, 0, by rw [h0], fun hp => by omega⟩
    · refine ⟨some ⟨g, 0, none⟩, cap, rfl, fun _ => ⟨g, rfl, fun i hi => ?_⟩⟩
      have := wcells_get l i hi
      rw [hown.cellAt (i * 2) (by omega), hown.cellAt (i * 2 + 1) (by omega)]
      exact this
  have HA := hide ha
  clear hown ha
  have hall : lastW (l.take l.length) d f = lastW l d f := by rw [List.take_length]
  have HL := hide hall
  clear hall
  go_enter Try.func20, Try.ntmps20
  go_wp2
  go_loop [7] (fun i => ∃ k : Nat, k ≤ l.length ∧ i = .int .i64 ((k : Int) - 1) ∧ lastW (l.take k) d f = lastW l d f) (fun i => (intOf i + 1).toNat)
  case atStart => exact ⟨l.length, by omega, by go_num, HL.out⟩
  case round =>
    obtain ⟨k, hk, rfl, hq⟩ := hrel
    have HQ := hide hq
    clear hq
    by_cases hkz : k = 0
    · subst hkz
      go_wp2
      go_ret
      exact ⟨ret_bool (by rw [← HQ.out]; rfl), rfl⟩
    · obtain ⟨i, rfl⟩ : ∃ i, k = i + 1 := ⟨k - 1, by omega⟩
      obtain ⟨g, rfl, hg⟩ := HA.out (by omega)
      obtain ⟨h1, h2⟩ := hg i (by omega)
      have hs := lastW_take l i d f (by omega)
      have hb := hbytes l[i] (List.getElem_mem (by omega))
      obtain ⟨p1, hp1⟩ : ∃ p, l[i].1 = p := ⟨_, rfl⟩
      obtain ⟨p2, hp2⟩ : ∃ p, l[i].2 = p := ⟨_, rfl⟩
      rw [hp1] at h1 hs hb
      rw [hp2] at h2 hs
      rw [show ((i + 1 : Nat) : Int) - 1 = (i : Int) by omega]
      have HS := hide hs
      clear hg hs hp1 hp2 hbytes
      by_cases he : p1 = d
      · have ht : ((p1 : Int) == (d : Int)) = true := by rw [beq_iff_eq]; omega
        have HE := hide he
        clear he
        go_wp2
        go_ret
        exact ⟨ret_bool (by rw [← HQ.out, HS.out, if_pos HE.out]), rfl⟩
      · have ht : ((p1 : Int) == (d : Int)) = false := by rw [beq_eq_false_iff_ne]; omega
        have HE := hide he
        clear he
        go_wp2
        go_round
        case rel => exact ⟨i, by omega, by go_num, by rw [← HQ.out, HS.out, if_neg HE.out]⟩
        case measure => simp [intOf]

/-- What a Word told to the reference leaves alone: all blocks ahead of B but b. -/
structure KeptBut (B b : Nat) (w w' : World) : Prop where
  os : w'.os = w.os
  tape : w'.tape = w.tape
  output : w'.output = w.output
  size : w.heap.size ≤ w'.heap.size
  block : ∀ k, k < B → k ≠ b → w'.heap[k]? = w.heap[k]?
theorem KeptBut.refl (B b : Nat) (w : World) : KeptBut B b w w := ⟨rfl, rfl, rfl, Nat.le_refl _, fun _ _ _ => rfl⟩
theorem KeptBut.gate {B b g S : Nat} {C : Bool} {w w' : World} (h : KeptBut B b w w') (hg : GateAt w g S C) (h1 : g < B) (h2 : g ≠ b) : GateAt w' g S C := hg.keep (h.block g h1 h2)
theorem KeptBut.step {B b A : Nat} {w0 w w' : World} (h : KeptBut B b w w') (hb : Below A w0 w) (h1 : A ≤ b) (h2 : A ≤ B) : Below A w0 w' :=
  hb.trans ⟨h.os, h.tape, h.output, h.size, fun k hk => h.block k (by omega) (by omega)⟩

set_option maxHeartbeats 400000 in
theorem ropen_any (b B : Nat) (l : List (Nat × Bool)) (w : World) (h : RefAt w b B l) (hl : l.length ≤ 1000) (hbytes : ∀ p ∈ l, p.1 ≤ 255) :
    Calls Try.prog 10 #[.pointer (some ⟨b, 0, none⟩)] w fun e w' => e = .returned (.bool (lastW l 0 true)) ∧ w = w' := by
  have HB := hide hbytes
  clear hbytes
  go_enter Try.func10, Try.ntmps10
  go_wp2_with fail
  refine (rlast_any b B 0 true l _ h hl (by omega) HB.out).mono ?_
  rintro e w' ⟨rfl, rfl⟩
  go_wp2
  go_ret
  exact ⟨rfl, rfl⟩

def rmay (l : List (Nat × Bool)) (d : Nat) : Bool := d == 0 || (decide (d ≤ 63) && lastW l 0 true && !lastW l d false)

set_option maxHeartbeats 1000000 in
theorem rmay_any (b B d : Nat) (l : List (Nat × Bool)) (w : World) (h : RefAt w b B l) (hl : l.length ≤ 1000) (hbytes : ∀ p ∈ l, p.1 ≤ 255) (hd : d ≤ 255) :
    Calls Try.prog 12 #[.pointer (some ⟨b, 0, none⟩), .int .u8 (d : Int)] w fun e w' => e = .returned (.bool (rmay l d)) ∧ w = w' := by
  have HB := hide hbytes
  clear hbytes
  obtain ⟨q, hq⟩ : ∃ q, rmay l d = q := ⟨_, rfl⟩
  rw [hq]
  have HQ := hide hq
  clear hq
  by_cases hz : d = 0
  · subst hz
    go_enter Try.func12, Try.ntmps12
    go_wp2
    go_ret
    exact ⟨by rw [← HQ.out]; rfl, rfl⟩
  · have hz1 : ((d : Int) == 0) = false := by rw [beq_eq_false_iff_ne]; omega
    have hz2 : (d == 0) = false := by rw [beq_eq_false_iff_ne]; omega
    by_cases h63 : d ≤ 63
    · have hd1 : decide ((d : Int) ≤ 63) = true := by rw [decide_eq_true_eq]; omega
      have hd2 : decide (d ≤ 63) = true := by rw [decide_eq_true_eq]; omega
      cases ho : lastW l 0 true with
      | false =>
        have HO := hide ho
        have HQ2 := hide (show rmay l d = false by simp [rmay, hz2, ho])
        clear ho hz2 hd2 hz
        go_enter Try.func12, Try.ntmps12
        go_wp2_with fail
        refine (ropen_any b B l _ h hl HB.out).mono ?_
        rw [HO.out]
        rintro e w' ⟨rfl, rfl⟩
        go_wp2
        go_ret
        exact ⟨ret_bool (by rw [← HQ.out, HQ2.out]), rfl⟩
      | true =>
        have HO := hide ho
        have HQ2 := hide (show rmay l d = !lastW l d false by simp [rmay, hz2, ho, hd2])
        clear ho hz2 hd2 hz
        go_enter Try.func12, Try.ntmps12
        go_wp2_with fail
        refine (ropen_any b B l _ h hl HB.out).mono ?_
        rw [HO.out]
        rintro e w' ⟨rfl, rfl⟩
        go_wp2_with fail
        refine (rlast_any b B d false l _ h hl hd HB.out).mono ?_
        rintro e w' ⟨rfl, rfl⟩
        go_wp2
        go_ret
        exact ⟨ret_bool (by rw [← HQ.out, HQ2.out]), rfl⟩
    · have hd1 : decide ((d : Int) ≤ 63) = false := by rw [decide_eq_false_iff_not]; omega
      have HQ2 := hide (show rmay l d = false by simp [rmay, hz2, h63])
      clear hz2 hz h63
      go_enter Try.func12, Try.ntmps12
      go_wp2
      go_ret
      exact ⟨ret_bool (by rw [← HQ.out, HQ2.out]), rfl⟩

theorem cells_new (w : World) (l : List Value) (e : TypeId) : ∀ j u, l[j]? = some u → (w.alloc (.cells l.toArray e)).cell? ((⟨w.heap.size, 0, none⟩ : Addr).add j) = some u := by
  intro j u hu
  rw [show (⟨w.heap.size, 0, none⟩ : Addr).add j = ⟨w.heap.size, j, none⟩ by unfold Addr.add; split <;> simp_all, World.cell?_alloc_new]
  simpa using hu
theorem ownsRow_some {w : World} {B n : Nat} {e : TypeId} {size : Nat} {v : Value} {xs : List Value} (h : w.ownsRow B e size v n xs) (hn : 0 < n) :
    ∃ g cap, v = .slice (some ⟨g, 0, none⟩) n cap := by
  rcases h.2 with ⟨_, h0⟩ | ⟨g, cap, cur, rfl, _⟩
  · omega
  · exact ⟨g, cap, rfl⟩
theorem word_told {w w1 : World} {b B n : Nat} {v : Value} {xs : List Value} {o : Obj} {e : TypeId} (hc : w.cell? ⟨b, 0, none⟩ = some v) (hf : w.frozen? ⟨b, 0, none⟩ = false)
    (hown : w.ownsRow B e 2 v n xs) (hbB : b < B) (hB : B ≤ w.heap.size) (hg : (w.alloc o).grownBy w1 v.ownBlock) :
    KeptBut B b w w1 ∧ w1.cell? ⟨b, 0, none⟩ = some v ∧ w1.frozen? ⟨b, 0, none⟩ = false := by
  have hne : ∀ k, k < B → some k ≠ v.ownBlock := fun k hk he => by have := (hown.lt k he.symm).1; omega
  have hbl : ∀ k, k < B → w1.heap[k]? = w.heap[k]? := fun k hk => (hg.block k (by simp; omega) (hne k hk)).trans (Below.heap_alloc _ _ _ (by omega))
  refine ⟨⟨hg.os, hg.tape, hg.output, by have := hg.size; simp at this; omega, fun k hk _ => hbl k hk⟩, ?_, ?_⟩
  · rw [World.cell?_of_block (w := w) (a := ⟨b, 0, none⟩) (hbl b hbB)]; exact hc
  · rw [World.frozen?_of_block (w := w) (a := ⟨b, 0, none⟩) (hbl b hbB)]; exact hf
theorem word_stored {w w1 : World} {b B : Nat} {v v' : Value} {l : List (Nat × Bool)} (hk : KeptBut B b w w1) (hc : w1.cell? ⟨b, 0, none⟩ = some v) (hf : w1.frozen? ⟨b, 0, none⟩ = false)
    (hown : w1.ownsRow B 45 2 v' l.length (wcells l)) (hbB : b < B) :
    RefAt (w1.setCell ⟨b, 0, none⟩ v') b B l ∧ KeptBut B b w (w1.setCell ⟨b, 0, none⟩ v') := by
  refine ⟨⟨v', World.cell?_setCell_same _ _ _ hc, by rw [World.frozen?_setCell]; exact hf, ?_⟩, ?_⟩
  · exact ownsRow_setCell_below hown hbB _
  · exact ⟨hk.os, hk.tape, hk.output, by simpa [World.setCell] using hk.size, fun k h1 h2 => (Below.heap_setCell _ _ _ _ h2).trans (hk.block k h1 h2)⟩

theorem wordrow : (Try.prog.info? 45).map (fun i => (i.zero, i.size, i.bytes)) = some (some (.agg #[.int .u8 0, .bool false]), 2, 2) := by kernel_rfl

set_option maxHeartbeats 1000000 in
theorem rall_any (b B : Nat) (o : Bool) (l : List (Nat × Bool)) (w : World) (h : RefAt w b B l) (hl : l.length ≤ 1000) (hbB : b < B) (hB : B ≤ w.heap.size) :
    Calls Try.prog 17 #[.pointer (some ⟨b, 0, none⟩), .bool o] w fun e w' => e = .returned (.tuple #[]) ∧ RefAt w' b B (l ++ [(0, o)]) ∧ KeptBut B b w w' := by
  obtain ⟨v, hc, hf, hown⟩ := h
  obtain ⟨i0, hi, hz0, hz1, hz2⟩ := info_parts wordrow
  have hbs : b < w.heap.size := by omega
  go_enter Try.func17, Try.ntmps17
  go_wp2_with (at_builtin; refine wpList_append_own _ rfl _ _ 27 rfl B 45 i0 (.agg #[.int .u8 0, .bool false]) 2 2 Try.underlying27 hi hz0 hz1 hz2 rfl (by decide) _ _ _ rfl (hown.alloc _) ⟨w.heap.size, 0, none⟩ 1 1 [.int .u8 0, .bool o] rfl rfl ?hn (by intro u hu; simp at hu; rcases hu with rfl | rfl <;> rfl) (by unfold maxLen; omega) (by omega) (by simp; omega) ?_)
  case hn => exact cells_new w [.int .u8 0, .bool o] _
  intro v' w1 hown' hgrow _
  obtain ⟨g, cap, rfl⟩ := ownsRow_some hown' (by omega)
  obtain ⟨hk, hc1, hf1⟩ := word_told hc hf hown hbB hB hgrow
  clear hgrow hown hc hf
  go_wp2
  go_end0
  exact ⟨rfl, word_stored hk hc1 hf1 (by rw [List.length_append, wcells_snoc]; exact hown') hbB⟩

set_option maxHeartbeats 1000000 in
theorem rstop_in (b B d : Nat) (o : Bool) (l : List (Nat × Bool)) (w : World) (h : RefAt w b B l) (hl : l.length ≤ 1000) (hbB : b < B) (hB : B ≤ w.heap.size) (h1 : 1 ≤ d) (h63 : d ≤ 63) :
    Calls Try.prog 19 #[.pointer (some ⟨b, 0, none⟩), .int .u8 (d : Int), .bool o] w fun e w' => e = .returned (.tuple #[]) ∧ RefAt w' b B (l ++ [(d, o)]) ∧ KeptBut B b w w' := by
  obtain ⟨v, hc, hf, hown⟩ := h
  obtain ⟨i0, hi, hz0, hz1, hz2⟩ := info_parts wordrow
  have hbs : b < w.heap.size := by omega
  have hz : ((d : Int) != 0) = true := by rw [bne_iff_ne]; omega
  go_enter Try.func19, Try.ntmps19
  go_wp2_with (at_builtin; refine wpList_append_own _ rfl _ _ 27 rfl B 45 i0 (.agg #[.int .u8 0, .bool false]) 2 2 Try.underlying27 hi hz0 hz1 hz2 rfl (by decide) _ _ _ rfl (hown.alloc _) ⟨w.heap.size, 0, none⟩ 1 1 [.int .u8 (d : Int), .bool o] rfl rfl ?hn (by intro u hu; simp at hu; rcases hu with rfl | rfl <;> rfl) (by unfold maxLen; omega) (by omega) (by simp; omega) ?_)
  case hn => exact cells_new w [.int .u8 (d : Int), .bool o] _
  intro v' w1 hown' hgrow _
  obtain ⟨g, cap, rfl⟩ := ownsRow_some hown' (by omega)
  obtain ⟨hk, hc1, hf1⟩ := word_told hc hf hown hbB hB hgrow
  clear hgrow hown hc hf
  go_wp2
  go_end0
  exact ⟨rfl, word_stored hk hc1 hf1 (by rw [List.length_append, wcells_snoc]; exact hown') hbB⟩

set_option maxHeartbeats 400000 in
theorem rstop_out (b d : Nat) (o : Bool) (w : World) (ho : d = 0 ∨ 63 < d) :
    Calls Try.prog 19 #[.pointer (some ⟨b, 0, none⟩), .int .u8 (d : Int), .bool o] w fun e w' => e = .returned (.tuple #[]) ∧ w = w' := by
  rcases ho with rfl | ho
  · go_enter Try.func19, Try.ntmps19
    go_wp2
    go_end0
    exact ⟨rfl, rfl⟩
  · have hz : ((d : Int) != 0) = true := by rw [bne_iff_ne]; omega
    go_enter Try.func19, Try.ntmps19
    go_wp2
    go_end0
    exact ⟨rfl, rfl⟩

/-- What the reference is told by a Stop. -/
def rwords (l : List (Nat × Bool)) (d : Nat) (o : Bool) : List (Nat × Bool) := if 1 ≤ d ∧ d ≤ 63 then l ++ [(d, o)] else l
theorem rstop_any (b B d : Nat) (o : Bool) (l : List (Nat × Bool)) (w : World) (h : RefAt w b B l) (hl : l.length ≤ 1000) (hbB : b < B) (hB : B ≤ w.heap.size) (hd : d ≤ 255) :
    Calls Try.prog 19 #[.pointer (some ⟨b, 0, none⟩), .int .u8 (d : Int), .bool o] w fun e w' => e = .returned (.tuple #[]) ∧ RefAt w' b B (rwords l d o) ∧ KeptBut B b w w' := by
  unfold rwords
  by_cases hin : 1 ≤ d ∧ d ≤ 63
  · rw [if_pos hin]
    exact rstop_in b B d o l w h hl hbB hB hin.1 hin.2
  · rw [if_neg hin]
    exact (rstop_out b d o w (by omega)).mono fun e w' ⟨he, hw⟩ => by subst hw; exact ⟨he, h, KeptBut.refl _ _ _⟩

/-- The channels of which the words say last that they are stopped, of so many. -/
def rstops (l : List (Nat × Bool)) (k : Nat) : List Int := ((List.range k).filter fun d => decide (1 ≤ d) && lastW l d false).map fun (d : Nat) => (d : Int)
theorem rstops_succ (l : List (Nat × Bool)) (k : Nat) : rstops l (k + 1) = rstops l k ++ if (decide (1 ≤ k) && lastW l k false) = true then [(k : Int)] else [] := by
  unfold rstops
  rw [List.range_succ, List.filter_append, List.map_append]
  congr 1
  by_cases h : (decide (1 ≤ k) && lastW l k false) = true
  · rw [if_pos h, List.filter_cons_of_pos (by exact h)]; rfl
  · rw [if_neg h, List.filter_cons_of_neg (by exact h)]; rfl
theorem rstops_one (l : List (Nat × Bool)) : rstops l 1 = [] := by rw [rstops_succ]; rfl
theorem rstops_length (l : List (Nat × Bool)) (k : Nat) : (rstops l k).length ≤ k := by
  unfold rstops
  rw [List.length_map]
  exact Nat.le_trans (List.length_filter_le _ _) (by simp)

set_option maxHeartbeats 1000000 in
theorem rstopped_any (b B : Nat) (l : List (Nat × Bool)) (w : World) (h : RefAt w b B l) (hl : l.length ≤ 1000) (hbytes : ∀ p ∈ l, p.1 ≤ 255) :
    Calls Try.prog 15 #[.pointer (some ⟨b, 0, none⟩)] w fun e w' =>
      ∃ v, e = .returned v ∧ w'.ownsRow w.heap.size 5 1 v (rstops l 64).length ((rstops l 64).map (Value.int .u8)) ∧ Below w.heap.size w w' := by
  obtain ⟨i0, hi, hz0, hz1, hz2⟩ := info_parts u8row
  have HBY := hide hbytes
  clear hbytes
  go_enter Try.func15, Try.ntmps15
  go_wp2
  go_loopw [3, 4] (fun v i wr => ∃ k : Nat, 1 ≤ k ∧ k ≤ 64 ∧ i = .int .u8 k ∧ wr.ownsRow w.heap.size 5 1 v (rstops l k).length ((rstops l k).map (Value.int .u8)) ∧ Below w.heap.size w wr) (fun _ i _ => 64 - (intOf i).toNat)
  case atStart => exact ⟨1, by omega, by omega, rfl, by rw [rstops_one]; exact World.ownsRow_nil _ _ _ _, Below.refl _ _⟩
  case round =>
    obtain ⟨k, hk1, hk, rfl, hown, hb⟩ := hrel
    have hz := hb.size
    have hgr := hide (h.below hb)
    have hsl := rstops_length l k
    by_cases hkl : k ≤ 63
    · have hsu := hide (rstops_succ l k)
      have hdk : decide (1 ≤ k) = true := by rw [decide_eq_true_eq]; omega
      cases hp : lastW l k false with
      | true =>
        have HP := hide (show (decide (1 ≤ k) && lastW l k false) = true by rw [hdk, hp]; rfl)
        have HP1 := hide hp
        clear hp hdk
        go_wp2_with fail
        refine (rlast_any b B k false l _ hgr.out hl (by omega) HBY.out).mono ?_
        rw [HP1.out]
        rintro e w' ⟨rfl, rfl⟩
        go_wp2_with (at_builtin; refine wpList_append_own _ rfl _ _ 32 rfl w.heap.size 5 i0 (.int .u8 0) 1 1 Try.underlying32 hi hz0 hz1 hz2 rfl (by decide) _ _ _ rfl (hown.alloc _) ⟨wr.heap.size, 0, none⟩ 1 1 [.int .u8 (k : Int)] rfl rfl (cell_one_new _ _ _) (by intro u hu; simp at hu; subst hu; rfl) (by unfold maxLen; omega) (by omega) (by simp; omega) ?_)
        intro v' w1 hown' hgrow _
        have e1 : rstops l (k + 1) = rstops l k ++ [(k : Int)] := by rw [hsu.out, if_pos HP.out]
        have hown2 : w1.ownsRow w.heap.size 5 1 v' (rstops l (k + 1)).length ((rstops l (k + 1)).map (Value.int .u8)) := by
          rw [e1]; simpa using hown'
        have hb2 : Below w.heap.size w w1 := (hb.alloc hz _).grown hgrow (by simp; omega) (fun j hj => (hown.lt j hj).1)
        clear hown' hgrow hown hb e1
        go_wp2
        go_roundw
        case rel => exact ⟨k + 1, by omega, by omega, by go_num, hown2, hb2⟩
        case measure => simp [intOf]; omega
      | false =>
        have HP := hide (show ¬ (decide (1 ≤ k) && lastW l k false) = true by rw [hp]; simp)
        have HP1 := hide hp
        clear hp hdk
        go_wp2_with fail
        refine (rlast_any b B k false l _ hgr.out hl (by omega) HBY.out).mono ?_
        rw [HP1.out]
        rintro e w' ⟨rfl, rfl⟩
        go_wp2
        go_roundw
        case rel => exact ⟨k + 1, by omega, by omega, by go_num, by rw [hsu.out, if_neg HP.out, List.append_nil]; exact hown, hb⟩
        case measure => simp [intOf]; omega
    · obtain rfl : k = 64 := by omega
      go_wp2
      go_ret
      exact ⟨_, rfl, hown, hb⟩

end Go.Proofs.Ytnacjcgnkepacaa
