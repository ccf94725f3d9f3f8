/- New, Feed, Bad: the walks. -/
import Derived.Test.YtnnimkailajgaaaDoorDfRaw
namespace Go.Proofs.YtnnimkailajgaaaDoor
open Go.RowKit
set_option linter.unusedVariables false
set_option linter.unusedSimpArgs false

def nextN (adv : Bool) (n : Nat) : Nat := if n = 0 then 13 else if n = 1 then (if adv then 15 else 14) else 21
def outV (o : Option Fr) : Ending := .returned (.tuple #[(o.getD zf).v, .bool o.isSome])
theorem next_any (adv ini : Bool) (n1 : Int) (B gd : Nat) (x : DS) (b : Nat) (w : World) (hh : ∀ W, Below B w W → Octs W) (hf : ∀ W, Below B w W → Half W) (hb : b ≤ 255) (h : DefAt adv ini n1 B gd x w) (hk : DOk adv n1 x) (hx : x.bad ≤ 100000) :
    Calls Tryd.prog (nextN adv x.next) #[.pointer (some ⟨gd, 0, none⟩), .int .u8 (b : Int)] w fun e w' => e = outV (stepS adv ini n1 x b).2 ∧ DefAt adv ini n1 B gd (stepS adv ini n1 x b).1 w' ∧ Keeps B gd w w' := by
  have hr := room_le n1
  unfold nextN stepS
  by_cases h0 : x.next = 0
  · rw [if_pos h0, if_pos h0]
    exact lost_any adv ini n1 B gd x _ b w hb h rfl
  rw [if_neg h0, if_neg h0]
  by_cases h1 : x.next = 1
  · rw [if_pos h1, if_pos h1]
    cases adv with
    | true =>
      simp only [if_true]
      unfold rawS
      by_cases hb6 : b ≠ 126
      · rw [if_pos hb6]
        exact raw_data ini n1 B gd x b w hb h h1 hk.len hk.bytes hb6
      · rw [if_neg hb6]
        obtain rfl : b = 126 := Classical.not_not.1 hb6
        exact raw_flag ini n1 B gd x w hh hf h hx hk.len hk.bytes
    | false =>
      simp only [Bool.false_eq_true, if_false]
      have hbd := hk.body rfl h1
      have hs : (bodyS n1 x b).2 = none := by
        unfold bodyS
        split
        · rfl
        · split
          · rfl
          · split <;> rfl
      rw [hs]
      exact body_any ini n1 B gd x b w hb h hx h1 (by omega) hk.bytes
  · rw [if_neg h1, if_neg h1]
    have h2 : x.next = 2 := by have := hk.next; omega
    have had := hk.ends h2
    subst had
    by_cases hb9 : b ≠ 249
    · rw [if_pos hb9]
      exact end_bad ini n1 B gd x b w hb h hx hb9
    · rw [if_neg hb9]
      obtain rfl : b = 249 := Classical.not_not.1 hb9
      exact end_flag ini n1 B gd x w hh hf h hx hk.len hk.bytes

set_option maxRecDepth 100000 in
set_option maxHeartbeats 2000000 in
theorem feed1_any (adv ini : Bool) (n1 : Int) (B gd : Nat) (x : DS) (b : Nat) (w : World) (hh : ∀ W, Below B w W → Octs W) (hf : ∀ W, Below B w W → Half W) (hb : b ≤ 255) (h : DefAt adv ini n1 B gd x w) (hk : DOk adv n1 x) (hx : x.bad ≤ 100000) :
    Calls Tryd.prog 12 #[.pointer (some ⟨gd, 0, none⟩), .int .u8 (b : Int)] w fun e w' => e = outV (stepS adv ini n1 x b).2 ∧ DefAt adv ini n1 B gd (stepS adv ini n1 x b).1 w' ∧ Keeps B gd w w' := by
  have hlt := h.lt
  have hB : B ≤ w.heap.size := Nat.le_trans h.ge (Nat.le_of_lt hlt)
  have b0 := (Below.refl w.heap.size w).alloc (Nat.le_refl _) (.cells #[.int .u8 0, .bool false, .int .u8 0, .bool false, .int .u8 0, .int .u8 0, .string ⟨#[]⟩] 30)
  have K0 : Keeps B gd w (w.alloc (.cells #[.int .u8 0, .bool false, .int .u8 0, .bool false, .int .u8 0, .int .u8 0, .string ⟨#[]⟩] 30)) := Keeps.ofBelow hB b0
  have D0 := h.alloc (.cells #[.int .u8 0, .bool false, .int .u8 0, .bool false, .int .u8 0, .int .u8 0, .string ⟨#[]⟩] 30)
  have Z0 := zblk w
  have HN := hide (next_any adv ini n1 B gd x b _ (fun W hW => hh W ((b0.mono hB).trans hW)) (fun W hW => hf W ((b0.mono hB).trans hW)) hb D0 hk hx)
  clear hh hf b0
  obtain ⟨z, hz⟩ : ∃ z, stepS adv ini n1 x b = z := ⟨_, rfl⟩
  rw [hz] at HN ⊢
  obtain ⟨y, o⟩ := z
  dsimp only at HN ⊢
  unfold outV at HN ⊢
  obtain ⟨f, hfo⟩ : ∃ f, o.getD zf = f := ⟨_, rfl⟩
  obtain ⟨ok, hok⟩ : ∃ ok, o.isSome = ok := ⟨_, rfl⟩
  rw [hfo, hok] at HN ⊢
  clear hz hfo hok
  obtain ⟨d, c, k, p, s, r, i⟩ := f
  unfold Fr.v frV at HN
  go_enter Tryd.func12, Tryd.ntmps12
  go_upto_region 1 with (fail)
  generalize w.alloc (.cells #[.int .u8 0, .bool false, .int .u8 0, .bool false, .int .u8 0, .int .u8 0, .string ⟨#[]⟩] 30) = w1 at *
  obtain ⟨v, hblk, hown⟩ := D0.row
  obtain ⟨c0, c1, c2, c3, c4, c5, c6, _⟩ := cells7 hblk
  have hnf : nextF adv x.next gd = .func (.func (nextN adv x.next)) #[.pointer (some ⟨gd, 0, none⟩)] #[] := rfl
  rw [hnf] at c5
  have hKK : nextN adv x.next = 13 ∨ nextN adv x.next = 15 ∨ nextN adv x.next = 14 ∨ nextN adv x.next = 21 := by
    unfold nextN
    cases adv <;> (repeat' split) <;> simp
  generalize nextN adv x.next = K at *
  clear hblk hown hnf
  rcases hKK with rfl | rfl | rfl | rfl
  all_goals
    go_wp2_with fail
    refine HN.out.mono ?_
    rintro e w5 ⟨rfl, hD5, hK5⟩
    have hZ5 := hK5.blk Z0 (by omega)
    obtain ⟨z0, z1, z2, z3, z4, z5, z6, y0, y1, y2, y3, y4, y5, y6⟩ := zero_cells hZ5
    clear HN c0 c1 c2 c3 c4 c5 c6
    go_wp2
    exact ret_frame45 (frBlk_set7 hZ5 d c k p s r i) rfl rfl ⟨rfl, hD5.set7 hZ5 (Nat.ne_of_lt hlt) _ _ _ _ _ _ _, (K0.trans hK5).set7 hB (Nat.le_refl _) _ _ _ _ _ _ _⟩

theorem bad_of (adv ini : Bool) (n1 : Int) (gd bad n : Nat) (v : Value) (w : World) (hblk : w.heap[gd]? = some (dfr adv ini n1 v bad n gd)) :
    Calls Tryd.prog 10 #[.pointer (some ⟨gd, 0, none⟩)] w fun e w' => e = .returned (.int .i64 (bad : Int)) ∧ w = w' := by
  obtain ⟨c0, c1, c2, c3, c4, c5, c6, _⟩ := cells7 hblk
  clear hblk
  go_enter Tryd.func10, Tryd.ntmps10
  go_wp2
  go_ret
  exact ⟨rfl, rfl⟩

theorem bad_any (adv ini : Bool) (n1 : Int) (B gd : Nat) (x : DS) (w : World) (h : DefAt adv ini n1 B gd x w) :
    Calls Tryd.prog 10 #[.pointer (some ⟨gd, 0, none⟩)] w fun e w' => e = .returned (.int .i64 (x.bad : Int)) ∧ w = w' := by
  obtain ⟨v, hblk, _⟩ := h.row
  exact bad_of adv ini n1 gd x.bad x.next v w hblk
/-- A new deframer's block. -/
def Fresh (adv ini : Bool) (n1 : Int) (gd : Nat) (W : World) : Prop := W.heap[gd]? = some (dfr adv ini n1 (.slice none 0 0) 0 0 gd)
theorem Fresh.at {adv ini : Bool} {n1 : Int} {B gd : Nat} {W : World} (h : Fresh adv ini n1 gd W) (hB : B ≤ gd) : DefAt adv ini n1 B gd ⟨0, [], 0⟩ W := ⟨hB, .slice none 0 0, h, World.ownsRow_nil _ _ _ _⟩
theorem Fresh.keep {adv ini : Bool} {n1 : Int} {B g gd : Nat} {a b : World} (h : Fresh adv ini n1 gd a) (k : Keeps B g a b) (hg : gd ≠ g) : Fresh adv ini n1 gd b := k.keep gd _ _ _ h hg (by decide)
set_option maxRecDepth 100000 in
set_option maxHeartbeats 2000000 in
theorem new_any (adv ini : Bool) (n1 : Int) (w : World) :
    Calls Tryd.prog 7 #[.bool adv, .bool ini, .int .i64 n1] w fun e w' => e = .returned (.pointer (some ⟨w.heap.size, 0, none⟩)) ∧ Fresh adv ini n1 w.heap.size w' ∧ Below w.heap.size w w' := by
  have hblk := World.alloc_heap_new w (.cells #[.bool ini, .int .i64 n1, .int .u8 249, .slice none 0 0, .int .i64 0, .nilFunc, .nilFunc] 44)
  have hbb := (Below.refl w.heap.size w).alloc (Nat.le_refl _) (.cells #[.bool ini, .int .i64 n1, .int .u8 249, .slice none 0 0, .int .i64 0, .nilFunc, .nilFunc] 44)
  go_enter Tryd.func7, Tryd.ntmps7
  go_upto_region 2 with (fail)
  generalize w.alloc (.cells #[.bool ini, .int .i64 n1, .int .u8 249, .slice none 0 0, .int .i64 0, .nilFunc, .nilFunc] 44) = w1 at *
  obtain ⟨c0, c1, c2, c3, c4, c5, c6, f3, f4, f5, f2, f6⟩ := cells7 hblk
  cases adv with
  | false =>
    have hb2 := (hbb.setCell (p := ⟨w.heap.size, 5, none⟩) (Nat.le_refl _) (nextF false 0 w.heap.size)).setCell (p := ⟨w.heap.size, 6, none⟩) (Nat.le_refl _) (nextF false 1 w.heap.size)
    have hD : Fresh false ini n1 w.heap.size ((w1.setCell ⟨w.heap.size, 5, none⟩ (nextF false 0 w.heap.size)).setCell ⟨w.heap.size, 6, none⟩ (nextF false 1 w.heap.size)) :=
      blk_set (blk_set hblk 5 (nextF false 0 w.heap.size)) 6 (nextF false 1 w.heap.size)
    clear hblk hbb
    go_wp2
    go_ret
    exact ⟨rfl, hD, hb2⟩
  | true =>
    have hb2 := (((hbb.setCell (p := ⟨w.heap.size, 5, none⟩) (Nat.le_refl _) (nextF true 0 w.heap.size)).setCell (p := ⟨w.heap.size, 6, none⟩) (Nat.le_refl _) (nextF false 1 w.heap.size)).setCell (p := ⟨w.heap.size, 2, none⟩) (Nat.le_refl _) (.int .u8 126)).setCell (p := ⟨w.heap.size, 6, none⟩) (Nat.le_refl _) (nextF true 1 w.heap.size)
    have hD : Fresh true ini n1 w.heap.size ((((w1.setCell ⟨w.heap.size, 5, none⟩ (nextF true 0 w.heap.size)).setCell ⟨w.heap.size, 6, none⟩ (nextF false 1 w.heap.size)).setCell ⟨w.heap.size, 2, none⟩ (.int .u8 126)).setCell ⟨w.heap.size, 6, none⟩ (nextF true 1 w.heap.size)) :=
      blk_set (blk_set (blk_set (blk_set hblk 5 (nextF true 0 w.heap.size)) 6 (nextF false 1 w.heap.size)) 2 (.int .u8 126)) 6 (nextF true 1 w.heap.size)
    clear hblk hbb
    go_wp2
    go_ret
    exact ⟨rfl, hD, hb2⟩
end Go.Proofs.YtnnimkailajgaaaDoor
