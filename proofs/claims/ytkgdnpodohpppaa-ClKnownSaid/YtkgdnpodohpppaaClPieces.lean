/- The iterator of a message's pieces, and Split. -/
import Derived.Test.YtkgdnpodohpppaaRange
import Derived.Laws.BytesArg
namespace Go.Proofs.Ytkgdnpodohpppaa
open Go.RowKit
set_option linter.unusedVariables false
set_option linter.unusedSimpArgs false

/-- How many pieces a message has; a piece. -/
def pcN (L size : Nat) : Nat := if L = 0 then 1 else (L + size - 1) / size
def pcHead (n i : Nat) : Nat := (if i = 0 then 129 else 1) + if i + 1 = n then 64 else 0
def pc (s : ByteArray) (size i : Nat) : ByteArray := ByteArray.mk #[UInt8.ofNat (pcHead (pcN s.size size) i)] ++ s.extract (i * size) (min s.size ((i + 1) * size))

theorem pcN_pos (L size : Nat) (h : 1 ≤ size) : 1 ≤ pcN L size := by
  unfold pcN
  split
  · omega
  · exact (Nat.le_div_iff_mul_le (by omega)).2 (by omega)
/-- Another one is behind i just if more than a piece is left. -/
theorem pcN_more (L size i : Nat) (h : 1 ≤ size) : size < L - i * size ↔ i + 1 < pcN L size := by
  unfold pcN
  split
  · omega
  · show _ ↔ i + 1 + 1 ≤ _
    rw [Nat.le_div_iff_mul_le (by omega), Nat.add_mul, Nat.add_mul]
    generalize i * size = m
    omega

theorem extract_extract_min (s : ByteArray) (a z : Nat) (hz : z ≤ s.size - a) : (s.extract a s.size).extract 0 z = s.extract a (min s.size (a + z)) := by
  rw [ByteArray.extract_extract]
  congr 1
  all_goals omega
theorem pc_more (s : ByteArray) (size k H : Nat) (h1 : 1 ≤ size) (hH : H = if k = 0 then 129 else 1) (hlt : size < s.size - k * size) :
    pc s size k = ⟨#[UInt8.ofNat H]⟩ ++ (s.extract (k * size) s.size).extract 0 size := by
  have hm := (pcN_more s.size size k h1).1 hlt
  rw [extract_extract_min _ _ _ (by omega)]
  unfold pc pcHead
  rw [if_neg (show ¬ k + 1 = pcN s.size size by omega), Nat.add_zero, ← hH, Nat.add_mul, Nat.one_mul]
theorem pc_last (s : ByteArray) (size k H : Nat) (h1 : 1 ≤ size) (hH : H = if k = 0 then 129 else 1) (hk : k < pcN s.size size) (hle : ¬ size < s.size - k * size) :
    pc s size k = ⟨#[UInt8.ofNat (H + 64)]⟩ ++ s.extract (k * size) s.size := by
  have hm : ¬ _ := fun h => hle ((pcN_more s.size size k h1).2 h)
  unfold pc pcHead
  rw [if_pos (show k + 1 = pcN s.size size by omega), ← hH, Nat.add_mul, Nat.one_mul]
  congr 2
  omega

/-- 'string([]byte{h})', the slice just written out. -/
theorem run_head (b h : Nat) (W : World) (hc : W.cell? ⟨b, 0, none⟩ = some (.int .u8 (h : Int))) :
    (convert 37 9 (.slice (some ⟨b, 0, none⟩) 1 1)).run Try.prog W = .ok (.string ⟨#[UInt8.ofNat h]⟩) W := by
  have := run_convert_bytes_arg (P := Try.prog) W 37 5 Try.underlying37 Try.underlying5 b 0 1 1 [(h : Int)] rfl
    (fun i hi => by obtain rfl : i = 0 := by omega
                    exact hc) 9 Try.underlying9
  rw [this]
  simp [strOfNums]

theorem grown_alloc_drew (w : World) (o : Obj) : w.grownBy (w.alloc o).drew none := ⟨rfl, rfl, rfl, by simp, fun k hk _ => Below.heap_alloc w o k hk⟩
/-- A statement cut off from what follows. -/
theorem then_any {F : Fence} {n : Nat} {P : Program} {s : Code} {a : Act} {w : World} {R : Act → World → Prop} (h : ∀ K', (∀ a' w', R a' w' → K' a' w') → s.wpIn F n P (Exit.then K' (fun _ _ _ => False)) a w)
    {K : Act → World → Prop} {Q : Exit → Act → World → Prop} (hr : ∀ a' w', R a' w' → K a' w') : s.wpIn F n P (Exit.then K Q) a w := by
  refine wpIn_mono (h R (fun _ _ q => q)) ?_
  intro e a' w' hq
  cases e with
  | normal => exact hr _ _ hq
  | _ => exact hq.elim
theorem grown_set_drew (w : World) (b : Nat) (v : Value) : w.grownBy (w.setCell ⟨b, 0, none⟩ v).drew (some b) := ⟨rfl, rfl, rfl, by simp, fun k _ hk => Below.heap_setCell _ _ _ _ (fun e => hk (by rw [e]))⟩
def Mine (Bm Bs : Nat) (b : Nat) : Prop := b = Bm ∨ b = Bs
set_option maxHeartbeats 1000000 in
theorem pieces1_mine (Bm Bs : Nat) (s : ByteArray) (size : Nat) (h1 : 1 ≤ size) (h2 : size ≤ 127) (hs : s.size ≤ 1000000) (hne : Bm ≠ Bs) (w0 : World)
    (hm : Boxed w0 Bm 9 (.string s)) (hz : Boxed w0 Bs 3 (.int .i64 (size : Int))) :
    SeqMine 3 Try.prog 18 #[.pointer (some ⟨Bm, 0, none⟩), .pointer (some ⟨Bs, 0, none⟩)] (fun i => #[.string (pc s size i)]) (pcN s.size size) (Mine Bm Bs) w0 := by
  intro l J W hW hJ hY h0
  have hmW : Boxed W Bm 9 (.string s) := (hW Bm (.inl rfl)).trans hm
  have hzW : Boxed W Bs 3 (.int .i64 (size : Int)) := (hW Bs (.inr rfl)).trans hz
  refine callsIn_of_wp Try.func18 rfl trivial ?_ rfl
  simp only [Try.ntmps18, List.size_toArray, List.length_cons, List.length_nil, Nat.reduceAdd, Nat.reduceSub, Array.replicate_succ, Array.replicate_zero, List.push_toArray, List.append_toArray, List.nil_append, List.cons_append]
  gi_wp2
  gi_loopw [4] (fun h wr => ∃ k : Nat, k < pcN s.size size ∧ h = .int .u8 (if k = 0 then 129 else 1) ∧ J k wr ∧ Boxed wr Bm 9 (.string (s.extract (k * size) s.size)) ∧ Boxed wr Bs 3 (.int .i64 (size : Int)))
    (fun h wr => match wr.cell? ⟨Bm, 0, none⟩ with | some (.string m) => m.size | _ => 0)
  case atStart => exact ⟨0, pcN_pos _ _ h1, rfl, h0, by rw [Nat.zero_mul, show s.extract 0 s.size = s from ByteArray.extract_zero_size]; exact hmW, hzW⟩
  case round =>
    obtain ⟨k, hk, rfl, hJk, hb, hz'⟩ := hrel
    have c1 := hb.cell
    have c2 := hz'.cell
    have f1 := hb.frozen
    obtain ⟨H, hH⟩ : ∃ H : Nat, H = (if k = 0 then 129 else 1) := ⟨_, rfl⟩
    have hHi : (if k = 0 then (129 : Int) else 1) = (H : Int) := by rw [hH]; split <;> rfl
    rw [hHi]
    have hHb : H ≤ 129 := by rw [hH]; split <;> omega
    have hsz : (s.extract (k * size) s.size).size = s.size - k * size := by rw [ByteArray.size_extract]; omega
    by_cases hlt : size < s.size - k * size
    · have hg : J k (wr.alloc (.cells #[.int .u8 (H : Int)] 5)).drew := hJ _ _ _ none hJk (grown_alloc_drew wr _) (by simp)
      obtain ⟨fn, tmps, assign, body, hy, hR⟩ := hY _ _ hg hk
      rw [pc_more s size k H h1 hH hlt] at hy
      have HH := hide hH
      clear hHi hH
      obtain ⟨m, hm'⟩ : ∃ m, s.extract (k * size) s.size = m := ⟨_, rfl⟩
      rw [hm'] at hb c1 hsz hy
      have HM := hide hm'
      clear hm'
      rw [← hsz] at hlt
      have HZ := hide hsz
      clear hsz
      have hcv := run_head wr.heap.size H (wr.alloc (.cells #[.int .u8 (H : Int)] 5)).drew (World.cell?_alloc_new _ _ _ _)
      have d1 : (wr.alloc (.cells #[.int .u8 (H : Int)] 5)).cell? ⟨Bm, 0, none⟩ = some (.string m) := (World.cell?_alloc_lt wr _ ⟨Bm, 0, none⟩ hb.lt).trans c1
      have d2 : (wr.alloc (.cells #[.int .u8 (H : Int)] 5)).cell? ⟨Bs, 0, none⟩ = some (.int .i64 (size : Int)) := (World.cell?_alloc_lt wr _ ⟨Bs, 0, none⟩ hz'.lt).trans c2
      have HJ := hide hJ
      clear hW hJ hY h0 hmW hzW hm hz hJk
      gi_wp2
      refine then_any (R := fun a' w' => J (k + 1) w' ∧ Boxed w' Bm 9 (.string m) ∧ Boxed w' Bs 3 (.int .i64 (size : Int)) ∧ ∃ u9 u10 u11 u12 u13 u14 u15 u16 u17, a' = (⟨#[Value.func (Fn.yield l) #[] #[], Value.pointer (some { block := Bm, off := 0 }),
          Value.pointer (some { block := Bs, off := 0 }), undef, Value.int IntKind.u8 ↑H, Value.string m, Value.int IntKind.i64 ↑m.size, Value.int IntKind.i64 ↑size, Value.bool true,
          u9, u10, u11, u12, u13, u14, u15, u16, u17, .bool false, u19, u20, u21, undef, undef, undef, undef, undef, undef, undef, undef], []⟩ : Act)) ?_ ?_
      · intro K' hK'
        rename_i qa ka xa qb kb xb kc xc
        clear xc kc xb kb qb xa ka qa
        gi_region_with (refine hR.mono ?_; rintro e W3 ⟨rfl, hJ3, hL3⟩)
        all_goals exact hK' _ _ ⟨hJ3, (hL3 Bm (.inl rfl)).trans (hb.alloc _), (hL3 Bs (.inr rfl)).trans (hz'.alloc _), _, _, _, _, _, _, _, _, _, rfl⟩
      · rintro a' w3 ⟨hJ3, hb3, hz3, v9, v10, v11, v12, v13, v14, v15, v16, v17, rfl⟩
        have c3 := hb3.cell
        have c4 := hz3.cell
        have f3 := hb3.frozen
        gi_wp2
        gi_region
        all_goals
          go_roundw
          case rel =>
            refine ⟨_, _, _, _, _, _, _, _, _, _, _, _, _, _, _, _, _, _, ⟨k + 1, (pcN_more _ _ _ h1).1 (by rw [← HZ.out]; exact hlt), rfl, ?_, ?_, ?_⟩, rfl⟩
            · exact HJ.out _ _ _ (some Bm) hJ3 (grown_set_drew w3 Bm _) (fun r e => by cases e; exact .inl rfl)
            · have e1 : m.extract size m.size = s.extract ((k + 1) * size) s.size := by
                rw [← HM.out, ByteArray.size_extract, ByteArray.extract_extract]
                congr 1
                · rw [Nat.add_mul, Nat.one_mul]
                · omega
              rw [← e1]
              exact hb3.set _
            · exact (Below.heap_setCell _ _ _ Bs (Ne.symm hne)).trans hz3
          case measure =>
            rw [World.cell?_drew, World.cell?_setCell_same _ _ _ c3, c1]
            simp only [ByteArray.size_extract]
            omega
    · obtain ⟨fn, tmps, assign, body, hy, hR⟩ := hY _ _ (hJ _ _ (wr.alloc (.cells #[.int .u8 ((H + 64 : Nat) : Int)] 5)) none hJk (World.grownBy_alloc _ _ none) (by simp)) hk
      rw [pc_last s size k H h1 hH hk hlt] at hy
      have hor : bits .or .u8 (H : Int) 64 = ((H + 64 : Nat) : Int) := by
        rw [hH]; split <;> decide
      have hlast : k + 1 = pcN s.size size := by
        have := mt (pcN_more s.size size k h1).2 hlt
        omega
      have HH := hide hH
      clear hHi hH
      generalize s.extract (k * size) s.size = m at *
      rw [← hsz] at hlt
      have HZ := hide hsz
      clear hsz
      have hcv := run_head wr.heap.size (H + 64) (wr.alloc (.cells #[.int .u8 ((H + 64 : Nat) : Int)] 5)) (World.cell?_alloc_new _ _ _ _)
      have d1 : (wr.alloc (.cells #[.int .u8 ((H + 64 : Nat) : Int)] 5)).cell? ⟨Bm, 0, none⟩ = some (.string m) := (World.cell?_alloc_lt wr _ ⟨Bm, 0, none⟩ hb.lt).trans c1
      have HL := hide hlast
      clear hW hJ hY h0 hmW hzW hm hz hJk hlast
      generalize H + 64 = G at *
      gi_wp2_with (refine hR.mono ?_; rintro e W3 ⟨rfl, hJ3, hL3⟩)
      go_end0
      exact ⟨⟨_, rfl⟩, by rw [← HL.out]; exact hJ3⟩

end Go.Proofs.Ytkgdnpodohpppaa
