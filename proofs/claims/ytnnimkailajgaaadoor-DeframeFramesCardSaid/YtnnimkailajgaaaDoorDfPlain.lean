/- The deframer, plainly: what a byte does, what bytes do, and what is told of encoded frames. -/
import Derived.Test.YtnnimkailajgaaaDoorBasBack
namespace Go.Proofs.YtnnimkailajgaaaDoor
open Go.RowKit
set_option linter.unusedVariables false
set_option linter.unusedSimpArgs false

structure Fr where
  d : Nat
  c : Bool
  k : Nat
  p : Bool
  s : Nat
  r : Nat
  i : ByteArray
def Fr.v (f : Fr) : Value := frV f.d f.c f.k f.p f.s f.r f.i
def Fr.ok (f : Fr) : Prop := f.d ≤ 255 ∧ f.k ≤ 255 ∧ f.s ≤ 255 ∧ f.r ≤ 255 ∧ f.i.size ≤ 128
def zf : Fr := ⟨0, false, 0, false, 0, 0, ⟨#[]⟩⟩
def decE (adv : Bool) (t : ByteArray) (b : Bool) (n1 : Int) : Ending := if adv then decR t b n1 else Bs.decT4 t b n1
def encE (adv : Bool) (f : Fr) (b : Bool) (n1 : Int) : Ending := if adv then encR f.d f.c f.k f.p f.s f.r f.i b n1 else Bs.encR4 f.d f.c f.k f.p f.s f.r f.i b n1
def natOf : Value → Nat
  | .int _ x => x.toNat
  | _ => 0
def boolOf : Value → Bool
  | .bool b => b
  | _ => false
def strOf : Value → ByteArray
  | .string s => s
  | _ => ⟨#[]⟩
/-- The frame that octets are, if they are one. -/
def decO (adv : Bool) (t : ByteArray) (b : Bool) (n1 : Int) : Option Fr :=
  match decE adv t b n1 with
  | .returned (.tuple a) => match a.getD 0 undef, a.getD 1 undef with
    | .agg x, .int _ e => if e = 0 then some ⟨natOf (x.getD 0 undef), boolOf (x.getD 1 undef), natOf (x.getD 2 undef), boolOf (x.getD 3 undef), natOf (x.getD 4 undef), natOf (x.getD 5 undef), strOf (x.getD 6 undef)⟩ else none
    | _, _ => none
  | _ => none
theorem decO_of {adv : Bool} {t : ByteArray} {b : Bool} {n1 : Int} {f : Fr} {e : Int} (h : decE adv t b n1 = .returned (.tuple #[f.v, .int .i64 e])) : decO adv t b n1 = if e = 0 then some f else none := by
  unfold decO
  rw [h]
  unfold Fr.v frV
  by_cases he : e = 0
  · simp [he, natOf, boolOf, strOf]
  · simp [he]
/-- A text between two flags. -/
def fl (adv : Bool) : Nat := if adv then 126 else 249
def wr (adv : Bool) (t : ByteArray) : ByteArray := st (fl adv :: (bl t ++ [fl adv]))
theorem fl_lt (adv : Bool) : fl adv < 256 := by unfold fl; split <;> omega
theorem wr_bytes (adv : Bool) (t : ByteArray) : Bytes (fl adv :: (bl t ++ [fl adv])) := bytes_cons (fl_lt adv) (bytes_append (bl_bytes t) (bytes_cons (fl_lt adv) bytes_nil))
theorem bl_wr (adv : Bool) (t : ByteArray) : bl (wr adv t) = fl adv :: (bl t ++ [fl adv]) := bl_st (wr_bytes adv t)
theorem wr_size (adv : Bool) (t : ByteArray) : (wr adv t).size = t.size + 2 := by unfold wr; rw [st_size]; simp [bl_length]

/-- What Decode answers: the frame, which is encoded as these octets between flags; or the zero frame with an error. -/
theorem dec_form (adv : Bool) (t : ByteArray) (b : Bool) (n1 : Int) : ∃ (f : Fr) (e : Int), decE adv t b n1 = .returned (.tuple #[f.v, .int .i64 e]) ∧ f.d ≤ 255 ∧ f.k ≤ 255 ∧ f.s ≤ 255 ∧ f.r ≤ 255 ∧ (e ≠ 0 → f = zf) ∧ (e = 0 → f.i.size ≤ 128 ∧ encE adv f b n1 = .returned (.tuple #[.string (wr adv t), .int .i64 0])) := by
  cases adv with
  | true =>
    obtain ⟨d, c, k, p, s, r, i, e, hR, h0, h1, h2, h3, h4, hz, hE⟩ := decR_back t b n1
    refine ⟨⟨d, c, k, p, s, r, i⟩, e, hR, h0, h1, h2, h3, ?_, fun he => ⟨h4, ?_⟩⟩
    · intro he
      obtain ⟨rfl, rfl, rfl, rfl, rfl, rfl, rfl⟩ := hz he
      rfl
    · have hw : wr true t = ((⟨#[126]⟩ : ByteArray) ++ t) ++ ⟨#[126]⟩ := wrap_st t (bl t) rfl
      rw [hw]
      exact hE he
  | false =>
    obtain ⟨d, c, k, p, s, r, i, e, hR, h0, h1, h2, h3, h4, hz, hE⟩ := Bs.decR4_back t b n1
    refine ⟨⟨d, c, k, p, s, r, i⟩, e, hR, h0, h1, h2, h3, ?_, fun he => ⟨h4 he, ?_⟩⟩
    · intro he
      obtain ⟨rfl, rfl, rfl, rfl, rfl, rfl, rfl⟩ := hz he
      rfl
    · have hw : wr false t = ((⟨#[249]⟩ : ByteArray) ++ t) ++ ⟨#[249]⟩ := by
        apply bl_inj
        rw [bl_wr]
        exact (Bs.bl_flg t).symm
      rw [hw]
      exact hE he
theorem decO_some {adv : Bool} {t : ByteArray} {b : Bool} {n1 : Int} {f : Fr} (h : decO adv t b n1 = some f) : f.ok ∧ decE adv t b n1 = .returned (.tuple #[f.v, .int .i64 0]) ∧ encE adv f b n1 = .returned (.tuple #[.string (wr adv t), .int .i64 0]) := by
  obtain ⟨f', e, hR, h0, h1, h2, h3, hz, hE⟩ := dec_form adv t b n1
  rw [decO_of hR] at h
  by_cases he : e = 0
  · rw [if_pos he] at h
    injection h with h
    subst h he
    exact ⟨⟨h0, h1, h2, h3, (hE rfl).1⟩, hR, (hE rfl).2⟩
  · rw [if_neg he] at h
    cases h
theorem decO_none {adv : Bool} {t : ByteArray} {b : Bool} {n1 : Int} (h : decO adv t b n1 = none) : ∃ e : Int, e ≠ 0 ∧ decE adv t b n1 = .returned (.tuple #[zf.v, .int .i64 e]) := by
  obtain ⟨f', e, hR, h0, h1, h2, h3, hz, hE⟩ := dec_form adv t b n1
  rw [decO_of hR] at h
  by_cases he : e = 0
  · rw [if_pos he] at h
    cases h
  · rw [hz he] at hR
    exact ⟨e, he, hR⟩

/-- How many bytes a body wants more. -/
def wantsI (n1 : Int) (g : List Nat) : Int :=
  if 0 < g.length ∧ g.getD 0 0 % 2 = 0 then -1
  else if g.length ≤ 2 then 1
  else if tkOk (st (g.drop 2)) = false then 1
  else if room n1 < (tkN (st (g.drop 2)) : Int) ∨ (lenL (tkN (st (g.drop 2)))).length ≠ tkZ (st (g.drop 2)) then -1
  else 2 + (tkZ (st (g.drop 2)) : Int) + (tkN (st (g.drop 2)) : Int) + 1 - (g.length : Int)
def most (n1 : Int) : Int := 2 * (room n1 + 2 + 1)
theorem room_le (n1 : Int) : 0 ≤ room n1 ∧ room n1 ≤ 128 := by unfold room; omega
theorem wants_len {n1 : Int} {g : List Nat} (h : 0 ≤ wantsI n1 g) : (g.length : Int) ≤ room n1 + 5 := by
  have hr := room_le n1
  unfold wantsI at h
  split at h
  · omega
  · split at h
    · omega
    · split at h
      · rename_i h1 h2 h3
        unfold tkOk at h3
        rw [st_size, List.length_drop] at h3
        have : g.length ≤ 3 := by
          apply Classical.byContradiction
          intro hn
          rw [decide_eq_true (show 0 < g.length - 2 by omega), decide_eq_true (show 2 ≤ g.length - 2 by omega)] at h3
          simp at h3
        omega
      · split at h
        · omega
        · rename_i h4
          have h5 : ¬ room n1 < (tkN (st (g.drop 2)) : Int) := fun hh => h4 (.inl hh)
          have h6 : tkZ (st (g.drop 2)) ≤ 2 := by unfold tkZ; split <;> omega
          omega

/-- Where a deframer stands: 0 lost, 1 behind a beginning, 2 ahead of the flag behind a body. -/
structure DS where
  next : Nat
  got : List Nat
  bad : Nat
def failsS (adv : Bool) (x : DS) (b : Nat) : DS := if b = fl adv then ⟨1, [], x.bad + 1⟩ else ⟨0, [], x.bad + 1⟩
def toldS (x : DS) (o : Option Fr) : DS × Option Fr :=
  match o with
  | some f => (x, some f)
  | none => (⟨x.next, x.got, x.bad + 1⟩, none)
def bodyS (n1 : Int) (x : DS) (b : Nat) : DS × Option Fr :=
  if x.got = [] ∧ b = 249 then (x, none)
  else if wantsI n1 (x.got ++ [b]) < 0 then (failsS false ⟨1, x.got ++ [b], x.bad⟩ b, none)
  else if wantsI n1 (x.got ++ [b]) = 0 then (⟨2, x.got ++ [b], x.bad⟩, none)
  else (⟨1, x.got ++ [b], x.bad⟩, none)
def rawS (ini : Bool) (n1 : Int) (x : DS) (b : Nat) : DS × Option Fr :=
  if b ≠ 126 then (if (x.got.length : Int) ≤ most n1 then ⟨1, x.got ++ [b], x.bad⟩ else x, none)
  else if x.got = [] then (⟨1, [], x.bad⟩, none)
  else if most n1 < (x.got.length : Int) then (⟨1, [], x.bad + 1⟩, none)
  else toldS ⟨1, [], x.bad⟩ (decO true (st x.got) ini n1)
def stepS (adv ini : Bool) (n1 : Int) (x : DS) (b : Nat) : DS × Option Fr :=
  if x.next = 0 then (if b = fl adv then ⟨1, [], x.bad⟩ else x, none)
  else if x.next = 1 then (if adv then rawS ini n1 x b else bodyS n1 x b)
  else if b ≠ 249 then (failsS false x b, none)
  else toldS ⟨1, [], x.bad⟩ (decO false (st x.got) ini n1)
/-- What stays so. -/
structure DOk (adv : Bool) (n1 : Int) (x : DS) : Prop where
  next : x.next ≤ 2
  lost : x.next = 0 → x.got = []
  ends : x.next = 2 → adv = false
  len : x.got.length ≤ 300
  bytes : Bytes x.got
  body : adv = false → x.next = 1 → (x.got.length : Int) ≤ room n1 + 5
theorem ok_begin {adv : Bool} {n1 : Int} (n : Nat) : DOk adv n1 ⟨1, [], n⟩ := ⟨(by decide : (1 : Nat) ≤ 2), fun _ => rfl, fun h => by simp at h, by simp, bytes_nil, fun _ _ => by have := room_le n1; simp; omega⟩
theorem ok_fails {adv : Bool} {n1 : Int} (a : Bool) (x : DS) (b : Nat) : DOk adv n1 (failsS a x b) := by
  unfold failsS
  split
  · exact ok_begin _
  · exact ⟨(by decide : (0 : Nat) ≤ 2), fun _ => rfl, fun h => by simp at h, by simp, bytes_nil, fun _ h => by simp at h⟩
theorem ok_told {adv : Bool} {n1 : Int} {x : DS} (h : DOk adv n1 x) (o : Option Fr) : DOk adv n1 (toldS x o).1 := by
  unfold toldS
  cases o with
  | some f => exact h
  | none => exact ⟨h.next, h.lost, h.ends, h.len, h.bytes, h.body⟩
theorem ok_step {adv ini : Bool} {n1 : Int} {x : DS} {b : Nat} (h : DOk adv n1 x) (hb : b < 256) : DOk adv n1 (stepS adv ini n1 x b).1 := by
  have hr := room_le n1
  unfold stepS
  split
  · split
    · exact ok_begin _
    · exact h
  · split
    · rename_i h1
      split
      · rename_i hadv
        unfold rawS
        split
        · dsimp only
          split
          · rename_i hl
            refine ⟨by dsimp only; omega, fun h => by simp at h, fun h => by simp at h, ?_, bytes_append h.bytes (bytes_cons hb bytes_nil), fun ha => by rw [hadv] at ha; cases ha⟩
            unfold most at hl
            simp only [List.length_append, List.length_cons, List.length_nil]
            omega
          · exact h
        · split
          · exact ok_begin _
          · split
            · exact ok_begin _
            · exact ok_told (ok_begin _) _
      · unfold bodyS
        split
        · exact h
        · split
          · exact ok_fails _ _ _
          · rename_i hw
            have hl := wants_len (n1 := n1) (g := x.got ++ [b]) (by omega)
            rename_i hadv _
            have hb2 : Bytes (x.got ++ [b]) := bytes_append h.bytes (bytes_cons hb bytes_nil)
            split
            · exact ⟨by dsimp only; omega, fun h => by simp at h, fun _ => by simpa using hadv, by dsimp only; omega, hb2, fun _ h => by simp at h⟩
            · exact ⟨by dsimp only; omega, fun h => by simp at h, fun h => by simp at h, by dsimp only; omega, hb2, fun _ _ => hl⟩
    · split
      · exact ok_fails _ _ _
      · exact ok_told (ok_begin _) _

/-- Bytes, one behind the other: what is told, and whether the last one told it. -/
def feedS (adv ini : Bool) (n1 : Int) (x : DS) (l : List Nat) : DS × List Fr × Bool :=
  l.foldl (fun a b => ((stepS adv ini n1 a.1 b).1, a.2.1 ++ (stepS adv ini n1 a.1 b).2.toList, (stepS adv ini n1 a.1 b).2.isSome)) (x, [], false)
theorem feed_snoc (adv ini : Bool) (n1 : Int) (x : DS) (l : List Nat) (b : Nat) : feedS adv ini n1 x (l ++ [b]) =
    ((stepS adv ini n1 (feedS adv ini n1 x l).1 b).1, (feedS adv ini n1 x l).2.1 ++ (stepS adv ini n1 (feedS adv ini n1 x l).1 b).2.toList, (stepS adv ini n1 (feedS adv ini n1 x l).1 b).2.isSome) := by
  unfold feedS
  rw [List.foldl_append]
  rfl
theorem ok_feed {adv ini : Bool} {n1 : Int} {x : DS} (h : DOk adv n1 x) : ∀ (l : List Nat), Bytes l → DOk adv n1 (feedS adv ini n1 x l).1 := by
  intro l
  suffices H : ∀ n (l : List Nat), l.length = n → Bytes l → DOk adv n1 (feedS adv ini n1 x l).1 from H l.length l rfl
  intro n
  induction n with
  | zero =>
    intro l hl _
    rw [List.eq_nil_of_length_eq_zero hl]
    exact h
  | succ n ih =>
    intro l hl hb
    have hne : l ≠ [] := by intro e; rw [e] at hl; simp at hl
    obtain ⟨l', b, rfl⟩ : ∃ l' b, l = l' ++ [b] := ⟨l.dropLast, l.getLast hne, (List.dropLast_concat_getLast hne).symm⟩
    have hl' : l'.length = n := by simp at hl; exact hl
    rw [feed_snoc]
    exact ok_step (ih l' hl' (fun y hy => hb y (by simp [hy]))) (hb b (by simp))

/-- What came, as far as the deframer knows it. -/
def Hist (adv : Bool) (n1 : Int) (x : DS) (p : List Nat) : Prop :=
  (x.next = 1 → (adv = true → (x.got.length : Int) ≤ most n1) → ∃ q, p = q ++ fl adv :: x.got) ∧ (x.next = 2 → adv = false → ∃ q, p = q ++ fl adv :: x.got)
theorem hist_begin {adv : Bool} {n1 : Int} (p : List Nat) (n : Nat) : Hist adv n1 ⟨1, [], n⟩ (p ++ [fl adv]) := ⟨fun _ _ => ⟨p, rfl⟩, fun h => by simp at h⟩
theorem hist_fails {n1 : Int} (x : DS) (p : List Nat) (b : Nat) : Hist false n1 (failsS false x b) (p ++ [b]) := by
  unfold failsS
  split
  · rename_i h; rw [h]; exact hist_begin p _
  · exact ⟨fun h => by simp at h, fun h => by simp at h⟩
theorem hist_told {adv : Bool} {n1 : Int} {x : DS} {p : List Nat} (h : Hist adv n1 x p) (o : Option Fr) : Hist adv n1 (toldS x o).1 p := by
  unfold toldS
  cases o with
  | some f => exact h
  | none => exact h
theorem told_some {x : DS} {o : Option Fr} {f : Fr} (h : (toldS x o).2 = some f) : o = some f := by
  unfold toldS at h
  cases o with
  | some g => exact h
  | none => cases h
/-- A step keeps it; a frame that is told stands, between its flags, behind what came. -/
theorem hist_step {adv ini : Bool} {n1 : Int} {x : DS} {p : List Nat} {b : Nat} (hx : DOk adv n1 x) (h : Hist adv n1 x p) :
    Hist adv n1 (stepS adv ini n1 x b).1 (p ++ [b]) ∧ (∀ f, (stepS adv ini n1 x b).2 = some f → ∃ q, p ++ [b] = q ++ (fl adv :: (x.got ++ [fl adv])) ∧ decO adv (st x.got) ini n1 = some f) := by
  obtain ⟨ha, hb⟩ := h
  unfold stepS
  by_cases h0 : x.next = 0
  · rw [if_pos h0]
    refine ⟨?_, fun f hf => by cases hf⟩
    dsimp only
    split
    · rename_i e; rw [e]; exact hist_begin p _
    · exact ⟨fun h => by omega, fun h => by omega⟩
  rw [if_neg h0]
  by_cases h1 : x.next = 1
  · rw [if_pos h1]
    cases adv with
    | true =>
      simp only [if_true]
      unfold rawS
      by_cases hb6 : b ≠ 126
      · rw [if_pos hb6]
        refine ⟨?_, fun f hf => by cases hf⟩
        dsimp only
        split
        · rename_i hl
          refine ⟨fun _ _ => ?_, fun h => by simp at h⟩
          obtain ⟨q, hq⟩ := ha h1 (fun _ => hl)
          exact ⟨q, by rw [hq]; simp⟩
        · rename_i hl
          exact ⟨fun _ hh => absurd (hh rfl) hl, fun h => by omega⟩
      · rw [if_neg hb6]
        have hb7 : b = fl true := by unfold fl; simp; omega
        by_cases hg : x.got = []
        · rw [if_pos hg]
          exact ⟨by rw [hb7]; exact hist_begin p _, fun f hf => by cases hf⟩
        · rw [if_neg hg]
          by_cases hm : most n1 < (x.got.length : Int)
          · rw [if_pos hm]
            exact ⟨by rw [hb7]; exact hist_begin p _, fun f hf => by cases hf⟩
          · rw [if_neg hm]
            refine ⟨hist_told (by rw [hb7]; exact hist_begin p _) _, fun f hf => ?_⟩
            obtain ⟨q, hq⟩ := ha h1 (fun _ => by omega)
            exact ⟨q, by rw [hq, hb7]; simp, told_some hf⟩
    | false =>
      simp only [Bool.false_eq_true, if_false]
      unfold bodyS
      by_cases hg : x.got = [] ∧ b = 249
      · rw [if_pos hg]
        refine ⟨⟨fun _ _ => ⟨p, by rw [hg.1, hg.2]; rfl⟩, fun h => absurd (h1.symm.trans h) (by decide)⟩, fun f hf => by cases hf⟩
      · rw [if_neg hg]
        split
        · exact ⟨hist_fails _ p b, fun f hf => by cases hf⟩
        · obtain ⟨q, hq⟩ := ha h1 (fun hh => by cases hh)
          split
          · exact ⟨⟨fun h => by simp at h, fun _ _ => ⟨q, by rw [hq]; simp⟩⟩, fun f hf => by cases hf⟩
          · exact ⟨⟨fun _ _ => ⟨q, by rw [hq]; simp⟩, fun h => by simp at h⟩, fun f hf => by cases hf⟩
  · rw [if_neg h1]
    have h2 : x.next = 2 := by have := hx.next; omega
    have had := hx.ends h2
    subst had
    by_cases hb9 : b ≠ 249
    · rw [if_pos hb9]
      exact ⟨hist_fails _ p b, fun f hf => by cases hf⟩
    · rw [if_neg hb9]
      have hb7 : b = fl false := by unfold fl; simp; omega
      refine ⟨hist_told (by rw [hb7]; exact hist_begin p _) _, fun f hf => ?_⟩
      obtain ⟨q, hq⟩ := hb h2 rfl
      exact ⟨q, by rw [hq, hb7]; simp, told_some hf⟩

/-- What an encoded frame's octets between the flags are. -/
structure BodyOk (adv : Bool) (n1 : Int) (l : List Nat) : Prop where
  raw : adv = true → (∀ y ∈ l, y ≠ 126) ∧ (l.length : Int) ≤ most n1
  first : adv = false → l.getD 0 0 ≠ 249
  more : adv = false → ∀ j, 0 < j → j < l.length → 0 < wantsI n1 (l.take j)
  full : adv = false → wantsI n1 l = 0
def runS (adv : Bool) (l : List Nat) (m j : Nat) : DS := ⟨if adv = false ∧ j = l.length then 2 else 1, l.take j, m⟩
theorem run_step {adv ini : Bool} {n1 : Int} {l : List Nat} (h : BodyOk adv n1 l) (m j : Nat) (hj : j < l.length) : stepS adv ini n1 (runS adv l m j) (l.getD j 0) = (runS adv l m (j + 1), none) := by
  have hne : (if adv = false ∧ j = l.length then 2 else 1) = 1 := if_neg (fun hh => by omega)
  have htk := take_succ_getD l j hj
  unfold stepS runS
  dsimp only
  rw [hne, if_neg (by decide), if_pos rfl]
  cases adv with
  | true =>
    obtain ⟨h1, h2⟩ := h.raw rfl
    have hy : l.getD j 0 ≠ 126 := by
      have : l.getD j 0 = l[j] := by simp only [List.getD, List.getElem?_eq_getElem hj, Option.getD_some]
      rw [this]
      exact h1 _ (List.getElem_mem hj)
    simp only [if_true]
    unfold rawS
    rw [if_pos hy, if_pos (by dsimp only; rw [List.length_take]; omega), if_neg (by simp), htk]
  | false =>
    simp only [Bool.false_eq_true, if_false]
    unfold bodyS
    dsimp only
    rw [if_neg (by
      intro hh
      have hl := congrArg List.length hh.1
      rw [List.length_take] at hl
      have hj0 : j = 0 := by simp only [List.length_nil] at hl; omega
      subst hj0
      exact h.first rfl hh.2)]
    rw [← htk]
    by_cases he : j + 1 = l.length
    · have hf := h.full rfl
      rw [he, List.take_length, hf, if_neg (by decide), if_pos rfl, if_pos ⟨trivial, rfl⟩]
    · have hw := h.more rfl (j + 1) (by omega) (by omega)
      rw [if_neg (by omega), if_neg (by omega), if_neg (fun hh => he hh.2)]
theorem run_feed {adv ini : Bool} {n1 : Int} {l pre : List Nat} {x : DS} {m : Nat} (h : BodyOk adv n1 l) (h1 : 1 ≤ l.length) (h0 : feedS adv ini n1 x pre = (⟨1, [], m⟩, [], false)) :
    ∀ j, j ≤ l.length → feedS adv ini n1 x (pre ++ l.take j) = (runS adv l m j, [], false) := by
  intro j
  induction j with
  | zero =>
    intro _
    rw [List.take_zero, List.append_nil, h0]
    unfold runS
    rw [if_neg (fun hh => by omega), List.take_zero]
  | succ j ih =>
    intro hj
    rw [take_succ_getD l j (by omega), ← List.append_assoc, feed_snoc, ih (by omega), run_step h m j (by omega)]
    rfl
/-- An encoded frame behind a beginning is told by its last flag. -/
theorem run_told {adv ini : Bool} {n1 : Int} {l pre : List Nat} {x : DS} {m : Nat} {f : Fr} (h : BodyOk adv n1 l) (h1 : 1 ≤ l.length) (hd : decO adv (st l) ini n1 = some f) (h0 : feedS adv ini n1 x pre = (⟨1, [], m⟩, [], false)) :
    feedS adv ini n1 x (pre ++ (l ++ [fl adv])) = (⟨1, [], m⟩, [f], true) := by
  have hr := run_feed h h1 h0 l.length (Nat.le_refl _)
  rw [List.take_length] at hr
  rw [← List.append_assoc, feed_snoc, hr]
  have hs : stepS adv ini n1 (runS adv l m l.length) (fl adv) = (⟨1, [], m⟩, some f) := by
    cases adv with
    | true =>
      have h2 := (h.raw rfl).2
      have e : runS true l m l.length = ⟨1, l, m⟩ := by unfold runS; rw [if_neg (fun hh => by cases hh.1), List.take_length]
      rw [e]
      show rawS ini n1 ⟨1, l, m⟩ 126 = _
      unfold rawS
      dsimp only
      rw [if_neg (by simp), if_neg (by intro e; rw [e] at h1; simp at h1), if_neg (by omega), hd]
      rfl
    | false =>
      have e : runS false l m l.length = ⟨2, l, m⟩ := by unfold runS; rw [if_pos ⟨rfl, rfl⟩, List.take_length]
      rw [e]
      show toldS ⟨1, [], m⟩ (decO false (st l) ini n1) = _
      rw [hd]
      rfl
  rw [hs]
  rfl
theorem feed_flag {adv ini : Bool} {n1 : Int} {x : DS} (h : x.next = 0 ∨ (x.next = 1 ∧ x.got = [])) : feedS adv ini n1 x [fl adv] = (⟨1, [], x.bad⟩, [], false) := by
  have hs : stepS adv ini n1 x (fl adv) = (⟨1, [], x.bad⟩, none) := by
    unfold stepS
    rcases h with h | ⟨h, hg⟩
    · rw [if_pos h, if_pos rfl]
    · rw [if_neg (by omega), if_pos h]
      cases adv with
      | true =>
        simp only [if_true]
        unfold rawS fl
        rw [if_neg (by simp), if_pos hg]
      | false =>
        simp only [Bool.false_eq_true, if_false]
        unfold bodyS fl
        rw [if_pos ⟨hg, by simp⟩]
        cases x
        simp only at h hg
        subst h hg
        rfl
  show ((stepS adv ini n1 x (fl adv)).1, [] ++ (stepS adv ini n1 x (fl adv)).2.toList, (stepS adv ini n1 x (fl adv)).2.isSome) = _
  rw [hs]
  rfl

/-- How many flags lead to a beginning. -/
def mu (adv : Bool) (n1 : Int) (x : DS) : Nat := if x.next = 1 ∧ x.got = [] then 0 else if adv = false ∧ x.next = 1 then (room n1 + 7 - (x.got.length : Int)).toNat else 1
theorem told_next (x : DS) (o : Option Fr) : (toldS x o).1.next = x.next ∧ (toldS x o).1.got = x.got := by
  unfold toldS
  cases o <;> exact ⟨rfl, rfl⟩
theorem mu_of {adv : Bool} {n1 : Int} {x : DS} (h1 : x.next = 1) (h2 : x.got = []) : mu adv n1 x = 0 := by unfold mu; rw [if_pos ⟨h1, h2⟩]
theorem mu_zero {adv : Bool} {n1 : Int} (n : Nat) : mu adv n1 ⟨1, [], n⟩ = 0 := mu_of rfl rfl
theorem mu_step {adv ini : Bool} {n1 : Int} {x : DS} (h : DOk adv n1 x) : mu adv n1 (stepS adv ini n1 x (fl adv)).1 ≤ mu adv n1 x - 1 := by
  have hr := room_le n1
  unfold stepS
  by_cases h0 : x.next = 0
  · rw [if_pos h0, if_pos rfl]; dsimp only; rw [mu_zero]; omega
  rw [if_neg h0]
  by_cases h1 : x.next = 1
  · rw [if_pos h1]
    cases adv with
    | true =>
      simp only [if_true]
      unfold rawS fl
      rw [if_neg (by simp)]
      split
      · dsimp only; rw [mu_zero]; omega
      · split
        · dsimp only; rw [mu_zero]; omega
        · rw [mu_of (told_next _ _).1 (told_next _ _).2]; omega
    | false =>
      simp only [Bool.false_eq_true, if_false]
      have hb := h.body rfl h1
      unfold bodyS fl
      simp only [Bool.false_eq_true, if_false]
      split
      · rename_i hg
        dsimp only
        rw [mu_of h1 hg.1]; omega
      · rename_i hg
        have hg2 : x.got ≠ [] := fun e => hg ⟨e, by simp⟩
        have hm : mu false n1 x = (room n1 + 7 - (x.got.length : Int)).toNat := by unfold mu; rw [if_neg (fun hh => hg2 hh.2), if_pos ⟨rfl, h1⟩]
        split
        · unfold failsS fl
          simp only [Bool.false_eq_true, if_false, if_true]
          rw [mu_zero]; omega
        · split
          · have : mu false n1 ⟨2, x.got ++ [249], x.bad⟩ = 1 := by unfold mu; rw [if_neg (fun hh => by simp at hh), if_neg (fun hh => by simp at hh)]
            dsimp only
            rw [this, hm]; omega
          · have : mu false n1 ⟨1, x.got ++ [249], x.bad⟩ = (room n1 + 7 - ((x.got.length + 1 : Nat) : Int)).toNat := by
              unfold mu
              rw [if_neg (fun hh => by simp at hh), if_pos ⟨rfl, rfl⟩]
              simp
            dsimp only
            rw [this, hm]; omega
  · rw [if_neg h1]
    have h2 : x.next = 2 := by have := h.next; omega
    have had := h.ends h2
    subst had
    unfold fl
    simp only [Bool.false_eq_true, if_false]
    rw [if_neg (by simp), mu_of (told_next _ _).1 (told_next _ _).2]
    omega
theorem mu_begin {n1 : Int} {adv : Bool} {x : DS} (h : DOk adv n1 x) (h0 : mu adv n1 x = 0) : x.next = 1 ∧ x.got = [] := by
  have hr := room_le n1
  unfold mu at h0
  by_cases hg : x.next = 1 ∧ x.got = []
  · exact hg
  · rw [if_neg hg] at h0
    by_cases hb : adv = false ∧ x.next = 1
    · rw [if_pos hb] at h0
      have := h.body hb.1 hb.2
      omega
    · rw [if_neg hb] at h0; omega
theorem mu_le {n1 : Int} {adv : Bool} (x : DS) : (mu adv n1 x : Int) ≤ room n1 + 7 := by
  have hr := room_le n1
  unfold mu
  split
  · omega
  · split <;> omega
theorem flags_mu {adv ini : Bool} {n1 : Int} {x : DS} (h : DOk adv n1 x) : ∀ k, mu adv n1 (feedS adv ini n1 x (List.replicate k (fl adv))).1 ≤ mu adv n1 x - k ∧ DOk adv n1 (feedS adv ini n1 x (List.replicate k (fl adv))).1 := by
  intro k
  induction k with
  | zero => exact ⟨by show mu adv n1 x ≤ _; omega, h⟩
  | succ k ih =>
    obtain ⟨i1, i2⟩ := ih
    rw [List.replicate_succ', feed_snoc]
    have := mu_step (ini := ini) i2
    exact ⟨by dsimp only; omega, ok_step i2 (fl_lt adv)⟩
/-- Flags enough lead to a beginning. -/
theorem flags_begin {adv ini : Bool} {n1 : Int} {x : DS} (h : DOk adv n1 x) {k : Nat} (hk : room n1 + 7 ≤ (k : Int)) :
    (feedS adv ini n1 x (List.replicate k (fl adv))).1.next = 1 ∧ (feedS adv ini n1 x (List.replicate k (fl adv))).1.got = [] := by
  obtain ⟨h1, h2⟩ := flags_mu (ini := ini) h k
  have := mu_le (adv := adv) (n1 := n1) x
  exact mu_begin h2 (by omega)
end Go.Proofs.YtnnimkailajgaaaDoor
