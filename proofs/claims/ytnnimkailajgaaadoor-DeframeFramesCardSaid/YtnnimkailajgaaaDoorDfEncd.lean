/- A frame's bytes by an option: the walk. -/
import Derived.Test.YtnnimkailajgaaaDoorDfFeed
namespace Go.Proofs.YtnnimkailajgaaaDoor
open Go.RowKit
set_option linter.unusedVariables false
set_option linter.unusedSimpArgs false

set_option maxRecDepth 100000 in
set_option maxHeartbeats 2000000 in
theorem encoded_any (adv ini : Bool) (n1 : Int) (f : Fr) (x : ByteArray) (e0 : Int) (w : World) (hh : Octs w) (hf : Half w) (h0 : f.d ≤ 255) (h1 : f.k ≤ 255) (h2 : f.s ≤ 255) (h3 : f.r ≤ 255) (hi : f.i.size ≤ maxLen)
    (hE : encE adv f ini n1 = .returned (.tuple #[.string x, .int .i64 e0])) (hx : e0 = 0 → 2 < x.size) (hxs : x.size ≤ 600) :
    Calls Tryd.prog 8 #[.agg #[.bool adv, .bool ini, .int .i64 n1], f.v] w fun e w' => e = .returned (.tuple #[.string x, .bool (decide (e0 = 0))]) ∧ Below w.heap.size w w' := by
  obtain ⟨d, c, k, p, s, r, i⟩ := f
  dsimp only at h0 h1 h2 h3 hi
  unfold Fr.v frV
  have HO := hide (fun W (hb : Below w.heap.size w W) => hh.below hb)
  have HF := hide (fun W (hb : Below w.heap.size w W) => hf.below hb)
  clear hh hf
  have B0 := ((Below.refl w.heap.size w).alloc (Nat.le_refl _) (.cells #[.bool adv, .bool ini, .int .i64 n1] 23)).alloc (by simp) (.cells #[.int .u8 (d : Int), .bool c, .int .u8 (k : Int), .bool p, .int .u8 (s : Int), .int .u8 (r : Int), .string i] 30)
  have F0 : FrBlk ((w.alloc (.cells #[.bool adv, .bool ini, .int .i64 n1] 23)).alloc (.cells #[.int .u8 (d : Int), .bool c, .int .u8 (k : Int), .bool p, .int .u8 (s : Int), .int .u8 (r : Int), .string i] 30)) (w.heap.size + 1) d c k p s r i := by
    have := World.alloc_heap_new (w.alloc (.cells #[.bool adv, .bool ini, .int .i64 n1] 23)) (.cells #[.int .u8 (d : Int), .bool c, .int .u8 (k : Int), .bool p, .int .u8 (s : Int), .int .u8 (r : Int), .string i] 30)
    rw [World.size_alloc] at this
    exact this
  have R0 : ((w.alloc (.cells #[.bool adv, .bool ini, .int .i64 n1] 23)).alloc (.cells #[.int .u8 (d : Int), .bool c, .int .u8 (k : Int), .bool p, .int .u8 (s : Int), .int .u8 (r : Int), .string i] 30)).heap[w.heap.size]? = some (.cells #[.bool adv, .bool ini, .int .i64 n1] 23 (0, 0)) := (Below.heap_alloc _ _ _ (by simp)).trans (World.alloc_heap_new w _)
  have q0 : ((w.alloc (.cells #[.bool adv, .bool ini, .int .i64 n1] 23)).alloc (.cells #[.int .u8 (d : Int), .bool c, .int .u8 (k : Int), .bool p, .int .u8 (s : Int), .int .u8 (r : Int), .string i] 30)).cell? ⟨w.heap.size, 0, none⟩ = some (.bool adv) := by simp only [World.cell?, R0]; rfl
  have q1 : ((w.alloc (.cells #[.bool adv, .bool ini, .int .i64 n1] 23)).alloc (.cells #[.int .u8 (d : Int), .bool c, .int .u8 (k : Int), .bool p, .int .u8 (s : Int), .int .u8 (r : Int), .string i] 30)).cell? ⟨w.heap.size, 1, none⟩ = some (.bool ini) := by simp only [World.cell?, R0]; rfl
  have q2 : ((w.alloc (.cells #[.bool adv, .bool ini, .int .i64 n1] 23)).alloc (.cells #[.int .u8 (d : Int), .bool c, .int .u8 (k : Int), .bool p, .int .u8 (s : Int), .int .u8 (r : Int), .string i] 30)).cell? ⟨w.heap.size, 2, none⟩ = some (.int .i64 n1) := by simp only [World.cell?, R0]; rfl
  obtain ⟨c0, c1, c2, c3, c4, c5, c6, _⟩ := zero_cells F0
  have HX := hide hx
  obtain ⟨ok, hok⟩ : ∃ ok, decide (e0 = 0) = ok := ⟨_, rfl⟩
  rw [hok]
  have HOK := hide hok
  clear hx R0 hok
  go_enter Tryd.func8, Tryd.ntmps8
  go_upto_region 1 with (fail)
  generalize ((w.alloc (.cells #[.bool adv, .bool ini, .int .i64 n1] 23)).alloc (.cells #[.int .u8 (d : Int), .bool c, .int .u8 (k : Int), .bool p, .int .u8 (s : Int), .int .u8 (r : Int), .string i] 30)) = w1 at *
  cases adv with
  | true =>
    replace hE : encR d c k p s r i ini n1 = .returned (.tuple #[.string x, .int .i64 e0]) := hE
    have HE := hide hE
    clear hE
    go_wp2_with fail
    refine (encode_any d k s r c p i ini n1 _ (HO.out _ B0) (HF.out _ B0) h0 h1 h2 h3 hi).mono ?_
    rintro e w2 ⟨rfl, hb2⟩
    rw [HE.out]
    have B2 := below_step B0 (Nat.le_refl _) hb2
    clear hb2 B0 F0 c0 c1 c2 c3 c4 c5 c6 q0 q1 q2
    by_cases he : e0 = 0
    · have h2x := HX.out he
      subst he
      have h2i : (2 : Int) < (x.size : Int) := by omega
      go_wp2
      go_ret2
      exact ⟨by rw [← HOK.out]; simp [h2x], B2⟩
    · have heb : (e0 == 0) = false := by rw [beq_eq_false_iff_ne]; exact he
      go_wp2
      go_ret2
      exact ⟨by rw [← HOK.out, decide_eq_false he]; simp [heb], B2⟩
  | false =>
    replace hE : Bs.encR4 d c k p s r i ini n1 = .returned (.tuple #[.string x, .int .i64 e0]) := hE
    have HE := hide hE
    clear hE
    go_wp2_with fail
    refine (Bs.bencode_any d k s r c p i ini n1 _ (HO.out _ B0) (HF.out _ B0) h0 h1 h2 h3 hi).mono ?_
    rintro e w2 ⟨rfl, hb2⟩
    rw [HE.out]
    have B2 := below_step B0 (Nat.le_refl _) hb2
    clear hb2 B0 F0 c0 c1 c2 c3 c4 c5 c6 q0 q1 q2
    by_cases he : e0 = 0
    · have h2x := HX.out he
      subst he
      have h2i : (2 : Int) < (x.size : Int) := by omega
      go_wp2
      go_ret2
      exact ⟨by rw [← HOK.out]; simp [h2x], B2⟩
    · have heb : (e0 == 0) = false := by rw [beq_eq_false_iff_ne]; exact he
      go_wp2
      go_ret2
      exact ⟨by rw [← HOK.out, decide_eq_false he]; simp [heb], B2⟩
end Go.Proofs.YtnnimkailajgaaaDoor
