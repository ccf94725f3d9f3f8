/- feed: all bytes of a text: the walk. -/
import Derived.Test.YtnnimkailajgaaaDoorDfEncd
namespace Go.Proofs.YtnnimkailajgaaaDoor
open Go.RowKit
set_option linter.unusedVariables false
set_option linter.unusedSimpArgs false

theorem told_bad (x : DS) (o : Option Fr) : (toldS x o).1.bad ≤ x.bad + 1 := by unfold toldS; cases o <;> simp
theorem fails_bad (a : Bool) (x : DS) (b : Nat) : (failsS a x b).bad = x.bad + 1 := by unfold failsS; split <;> rfl
theorem step_bad (adv ini : Bool) (n1 : Int) (x : DS) (b : Nat) : (stepS adv ini n1 x b).1.bad ≤ x.bad + 1 := by
  have ht := fun o => told_bad ⟨1, [], x.bad⟩ o
  unfold stepS
  split
  · dsimp only; split <;> simp
  · split
    · split
      · unfold rawS
        split
        · dsimp only; split <;> simp
        · split
          · simp
          · split
            · simp
            · exact ht _
      · unfold bodyS
        split
        · simp
        · split
          · dsimp only; rw [fails_bad]; exact Nat.le_refl _
          · split <;> simp
    · split
      · dsimp only; rw [fails_bad]; exact Nat.le_refl _
      · exact ht _
theorem feed_bad (adv ini : Bool) (n1 : Int) (x : DS) : ∀ n (l : List Nat), l.length = n → (feedS adv ini n1 x l).1.bad ≤ x.bad + n := by
  intro n
  induction n with
  | zero => intro l hl; rw [List.eq_nil_of_length_eq_zero hl]; exact Nat.le_refl _
  | succ n ih =>
    intro l hl
    have hne : l ≠ [] := by intro e; rw [e] at hl; simp at hl
    obtain ⟨l', b, rfl⟩ : ∃ l' b, l = l' ++ [b] := ⟨l.dropLast, l.getLast hne, (List.dropLast_concat_getLast hne).symm⟩
    have hl' : l'.length = n := by simp at hl; exact hl
    rw [feed_snoc]
    have h1 := ih l' hl'
    have h2 := step_bad adv ini n1 (feedS adv ini n1 x l').1 b
    dsimp only
    omega
theorem feed_len (adv ini : Bool) (n1 : Int) (x : DS) : ∀ n (l : List Nat), l.length = n → (feedS adv ini n1 x l).2.1.length ≤ n := by
  intro n
  induction n with
  | zero => intro l hl; rw [List.eq_nil_of_length_eq_zero hl]; exact Nat.le_refl _
  | succ n ih =>
    intro l hl
    have hne : l ≠ [] := by intro e; rw [e] at hl; simp at hl
    obtain ⟨l', b, rfl⟩ : ∃ l' b, l = l' ++ [b] := ⟨l.dropLast, l.getLast hne, (List.dropLast_concat_getLast hne).symm⟩
    have hl' : l'.length = n := by simp at hl; exact hl
    rw [feed_snoc]
    have h1 := ih l' hl'
    have h2 : (stepS adv ini n1 (feedS adv ini n1 x l').1 b).2.toList.length ≤ 1 := by cases (stepS adv ini n1 (feedS adv ini n1 x l').1 b).2 <;> simp
    simp only [List.length_append]
    omega
def frC (f : Fr) : List Value := [.int .u8 (f.d : Int), .bool f.c, .int .u8 (f.k : Int), .bool f.p, .int .u8 (f.s : Int), .int .u8 (f.r : Int), .string f.i]
def frs (l : List Fr) : List Value := l.flatMap frC
theorem frs_snoc (l : List Fr) (f : Fr) : frs (l ++ [f]) = frs l ++ frC f := by simp [frs]
theorem frrow : (Tryd.prog.info? 30).map (fun i => (i.zero, i.size, i.bytes)) = some (some (.agg #[.int .u8 0, .bool false, .int .u8 0, .bool false, .int .u8 0, .int .u8 0, .string ⟨#[]⟩]), 7, 24) := by kernel_rfl
theorem fr_cells (W : World) (f : Fr) : ∀ j u, (frC f)[j]? = some u → (W.alloc (.cells #[.int .u8 (f.d : Int), .bool f.c, .int .u8 (f.k : Int), .bool f.p, .int .u8 (f.s : Int), .int .u8 (f.r : Int), .string f.i] 30)).cell? ((⟨W.heap.size, 0, none⟩ : Addr).add j) = some u := by
  intro j u h
  rw [show (⟨W.heap.size, 0, none⟩ : Addr).add j = ⟨W.heap.size, j, none⟩ by unfold Addr.add; split <;> simp_all, World.cell?_alloc_new, ← h, ← Array.getElem?_toList]
  rfl
/-- A row of frames of the call's own outlives a call on the deframer. -/
theorem Keeps.own {B C gd : Nat} {a b : World} {v : Value} {n : Nat} {xs : List Value} (h : Keeps B gd a b) (hown : a.ownsRow C 30 7 v n xs) (hC : gd < C) : b.ownsRow C 30 7 v n xs := by
  refine ⟨hown.1, ?_⟩
  rcases hown.2 with h0 | ⟨g, cap, cur, e1, e2, e3, rest⟩
  · exact .inl h0
  · exact .inr ⟨g, cap, cur, e1, e2, h.keep g _ _ _ e3 (by omega) (by decide), rest⟩

theorem row_block {W : World} {C n : Nat} {v : Value} {xs : List Value} {T : TypeId} {j : Nat} (hrow : W.ownsRow C T 7 v n xs) (e : some j = v.ownBlock) : C ≤ j ∧ ∃ cur, W.heap[j]? = some (.cells cur T (0, 0)) := by
  rcases hrow.2 with ⟨rfl, _⟩ | ⟨g, cap, cur, rfl, hg, e3, _⟩
  · simp [Value.ownBlock] at e
  · have : j = g := by simpa [Value.ownBlock] using e
    subst this
    exact ⟨hg, cur, e3⟩
theorem DefAt.grown {adv ini : Bool} {n1 : Int} {B gd C n : Nat} {x : DS} {W w1 : World} {o : Obj} {v : Value} {xs : List Value} (h : DefAt adv ini n1 B gd x W) (hrow : W.ownsRow C 30 7 v n xs) (hg : (W.alloc o).grownBy w1 v.ownBlock) : DefAt adv ini n1 B gd x w1 := by
  have hlt := h.lt
  obtain ⟨u, hblk, hown⟩ := h.row
  have same : ∀ (j : Nat) (cs : Array Value) (T : TypeId), W.heap[j]? = some (Obj.cells cs T (0, 0)) → T ≠ 30 → w1.heap[j]? = some (Obj.cells cs T (0, 0)) := by
    intro j cs T hj hT
    have hjl := (Array.getElem?_eq_some_iff.1 hj).1
    rw [hg.block j (by rw [World.size_alloc]; omega) ?_, Below.heap_alloc _ _ _ hjl]
    · exact hj
    · intro e
      obtain ⟨_, cur, hc⟩ := row_block hrow e
      rw [hj] at hc
      injection hc with hc
      injection hc with _ hc
      exact hT hc
  refine ⟨h.ge, u, same gd _ _ hblk (by decide), hown.1, ?_⟩
  rcases hown.2 with h0 | ⟨g, cap, cur, e1, e2, e3, rest⟩
  · exact .inl h0
  · exact .inr ⟨g, cap, cur, e1, e2, same g _ _ e3 (by decide), rest⟩
theorem Keeps.grown {B gd C n : Nat} {a W w1 : World} {o : Obj} {v : Value} {xs : List Value} (h : Keeps B gd a W) (hrow : W.ownsRow C 30 7 v n xs) (hC : a.heap.size ≤ C) (hB : B ≤ a.heap.size) (hg : (W.alloc o).grownBy w1 v.ownBlock) : Keeps B gd a w1 := by
  have hs := h.below.size
  refine ⟨h.below.trans (((Below.refl B W).alloc (by omega) o).grown hg (by rw [World.size_alloc]; omega) (fun j ej => by have := (row_block hrow ej.symm).1; omega)), fun j cs t fr h1 h2 h3 => ?_⟩
  have hj0 := (Array.getElem?_eq_some_iff.1 h1).1
  have hW := h.keep j cs t fr h1 h2 h3
  have hj := (Array.getElem?_eq_some_iff.1 hW).1
  rw [hg.block j (by rw [World.size_alloc]; omega) (fun e => by have := (row_block hrow e).1; omega), Below.heap_alloc _ _ _ hj]
  exact hW
/-- feed, under way. -/
structure FdAt (adv ini : Bool) (n1 : Int) (B gd : Nat) (x : DS) (w : World) (l : List Nat) (v : Value) (wr : World) : Prop where
  d : DefAt adv ini n1 B gd (feedS adv ini n1 x l).1 wr
  keep : Keeps B gd w wr
  row : wr.ownsRow w.heap.size 30 7 v (feedS adv ini n1 x l).2.1.length (frs (feedS adv ini n1 x l).2.1)

set_option maxRecDepth 100000 in
set_option maxHeartbeats 4000000 in
theorem feed_any (adv ini : Bool) (n1 : Int) (B gd : Nat) (x : DS) (s : ByteArray) (w : World) (hh : ∀ W, Below B w W → Octs W) (hf : ∀ W, Below B w W → Half W) (h : DefAt adv ini n1 B gd x w) (hk : DOk adv n1 x) (hx : x.bad + s.size ≤ 50000) :
    Calls Tryd.prog 9 #[.pointer (some ⟨gd, 0, none⟩), .string s] w fun e w' => ∃ v, e = .returned (.tuple #[v, .bool (feedS adv ini n1 x (bl s)).2.2]) ∧ FdAt adv ini n1 B gd x w (bl s) v w' := by
  have hlt := h.lt
  have hBW : B ≤ w.heap.size := Nat.le_trans h.ge (Nat.le_of_lt hlt)
  have HO := hide hh
  have HF := hide hf
  have HK := hide hk
  clear hh hf hk
  go_enter Tryd.func9, Tryd.ntmps9
  go_wp2
  go_loopw [6, 7, 8] (fun v q i wr => ∃ k : Nat, k ≤ s.size ∧ i = .int .i64 (k : Int) ∧ q = .bool (feedS adv ini n1 x ((bl s).take k)).2.2 ∧ FdAt adv ini n1 B gd x w ((bl s).take k) v wr) (fun _ _ i _ => s.size - (intOf i).toNat)
  case atStart => exact ⟨0, by omega, rfl, rfl, ⟨h, Keeps.refl _ _ _, World.ownsRow_nil _ _ _ _⟩⟩
  case round =>
    obtain ⟨k, hks, rfl, rfl, hP⟩ := hrel
    by_cases hkl : k < s.size
    · have hkl' : (k : Int) < (s.size : Int) := by omega
      have hqo := oc_at s k hkl
      have hlo := oc_lt s k
      have htk := take_succ_getD (bl s) k (by rw [bl_length]; exact hkl)
      have hoc : (bl s).getD k 0 = oc s k := rfl
      rw [hoc] at htk
      generalize oc s k = b at *
      have hby : Bytes ((bl s).take k) := fun y hy => bl_bytes s y (List.mem_of_mem_take hy)
      have hko := ok_feed (ini := ini) HK.out _ hby
      have hbd := feed_bad adv ini n1 x k ((bl s).take k) (by rw [List.length_take, bl_length]; omega)
      have hln := feed_len adv ini n1 x k ((bl s).take k) (by rw [List.length_take, bl_length]; omega)
      have hsn := feed_snoc adv ini n1 x ((bl s).take k) b
      rw [← htk] at hsn
      obtain ⟨hd, hkp, hrow⟩ := hP
      have HN := hide (feed1_any adv ini n1 B gd _ b wr (fun W hW => HO.out W (hkp.below.trans hW)) (fun W hW => HF.out W (hkp.below.trans hW)) hlo hd hko (by omega))
      have HSN := hide hsn
      clear hsn htk hoc
      obtain ⟨A, hA⟩ : ∃ A, feedS adv ini n1 x ((bl s).take k) = A := ⟨_, rfl⟩
      obtain ⟨A', hA'⟩ : ∃ A', feedS adv ini n1 x ((bl s).take (k + 1)) = A' := ⟨_, rfl⟩
      obtain ⟨ya, la, qa⟩ := A
      rw [hA] at HN HSN hrow hd hko hbd hln ⊢
      rw [hA'] at HSN
      dsimp only at HN HSN hrow hd hko hbd hln ⊢
      have HA' := hide hA'
      clear hA hA'
      obtain ⟨Z, hZ⟩ : ∃ Z, stepS adv ini n1 ya b = Z := ⟨_, rfl⟩
      rw [hZ] at HN HSN
      obtain ⟨y2, o⟩ := Z
      dsimp only at HN HSN
      have hBw : B ≤ wr.heap.size := Nat.le_trans hd.ge (Nat.le_of_lt hd.lt)
      have hws := hkp.below.size
      clear hZ
      cases o with
      | none =>
        unfold outV Fr.v frV zf at HN
        go_wp2_with fail
        refine HN.out.mono ?_
        rintro e w2 ⟨rfl, hd2, hk2⟩
        have own2 := hk2.own hrow hlt
        have hB2 : B ≤ w2.heap.size := Nat.le_trans hd2.ge (Nat.le_of_lt hd2.lt)
        go_wp2
        go_roundw
        case rel =>
          refine ⟨k + 1, hkl, by go_num, by rw [HA'.out, HSN.out]; rfl, ?_, (hkp.trans hk2).trans (Keeps.ofBelow hB2 ((Below.refl _ _).alloc (Nat.le_refl _) _)), ?_⟩
          · rw [HA'.out, HSN.out]; exact hd2.alloc _
          · rw [HA'.out, HSN.out]
            simp only [Option.toList_none, List.append_nil]
            exact own2.alloc _
        case measure => simp [intOf]; omega
      | some f =>
        obtain ⟨d, c, kk, p, s', r, i⟩ := f
        unfold outV Fr.v frV at HN
        go_wp2_with fail
        refine HN.out.mono ?_
        rintro e w2 ⟨rfl, hd2, hk2⟩
        have own2 := hk2.own hrow hlt
        have hB2 : B ≤ w2.heap.size := Nat.le_trans hd2.ge (Nat.le_of_lt hd2.lt)
        have F3 : FrBlk (w2.alloc (.cells #[.int .u8 (d : Int), .bool c, .int .u8 (kk : Int), .bool p, .int .u8 (s' : Int), .int .u8 (r : Int), .string i] 30)) w2.heap.size d c kk p s' r i := World.alloc_heap_new w2 _
        obtain ⟨c0, c1, c2, c3, c4, c5, c6, _⟩ := zero_cells F3
        have k3 := hk2.trans (Keeps.ofBelow hB2 ((Below.refl w2.heap.size w2).alloc (Nat.le_refl _) (.cells #[.int .u8 (d : Int), .bool c, .int .u8 (kk : Int), .bool p, .int .u8 (s' : Int), .int .u8 (r : Int), .string i] 30)))
        have hd3 := hd2.alloc (.cells #[.int .u8 (d : Int), .bool c, .int .u8 (kk : Int), .bool p, .int .u8 (s' : Int), .int .u8 (r : Int), .string i] 30)
        have own3 := own2.alloc (.cells #[.int .u8 (d : Int), .bool c, .int .u8 (kk : Int), .bool p, .int .u8 (s' : Int), .int .u8 (r : Int), .string i] 30)
        have hw3 : w.heap.size ≤ (w2.alloc (.cells #[.int .u8 (d : Int), .bool c, .int .u8 (kk : Int), .bool p, .int .u8 (s' : Int), .int .u8 (r : Int), .string i] 30)).heap.size := by have := k3.below.size; omega
        obtain ⟨i0, hi0, hz0, hz1, hz2⟩ := info_parts frrow
        have hfc := fr_cells (w2.alloc (.cells #[.int .u8 (d : Int), .bool c, .int .u8 (kk : Int), .bool p, .int .u8 (s' : Int), .int .u8 (r : Int), .string i] 30)) ⟨d, c, kk, p, s', r, i⟩
        rw [World.size_alloc] at hfc
        have HFC := hide hfc
        clear hfc
        go_wp2_with (at_builtin; refine wpList_append_own _ rfl (.tmp 26) (.tmp 28) 24 rfl w.heap.size 30 i0 (.agg #[.int .u8 0, .bool false, .int .u8 0, .bool false, .int .u8 0, .int .u8 0, .string ⟨#[]⟩]) 7 24 Tryd.underlying24 hi0 hz0 hz1 hz2 rfl (by decide) _ _ _ rfl (own3.alloc _) ⟨w2.heap.size + 1, 0, none⟩ 1 1 (frC ⟨d, c, kk, p, s', r, i⟩) rfl rfl HFC.out (by simp [frC, Value.oneCell']) (by unfold maxLen; omega) (by omega) (by rw [World.size_alloc]; omega) ?_; intro v4 w4 own4 hgrow _; have HG := hide hgrow; have HO4 := hide own4)
        go_roundw
        case rel =>
          refine ⟨k + 1, hkl, by go_num, by rw [HA'.out, HSN.out]; rfl, ?_, (hkp.trans k3).grown own3 (Nat.le_refl _) hBW HG.out, ?_⟩
          · rw [HA'.out, HSN.out]; exact hd3.grown own3 HG.out
          · rw [HA'.out, HSN.out]
            simp only [Option.toList_some, List.length_append, List.length_cons, List.length_nil, Nat.zero_add]
            rw [frs_snoc]
            exact HO4.out
        case measure => simp [intOf]; omega
    · obtain rfl : k = s.size := by omega
      rw [List.take_of_length_le (by rw [bl_length]; exact Nat.le_refl _)] at hP ⊢
      go_wp2
      go_ret2
      exact ⟨_, rfl, hP⟩
end Go.Proofs.YtnnimkailajgaaaDoor
