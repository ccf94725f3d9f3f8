/- Plain facts on the check of chapter 01: the step by half bytes and the step by bits are one linear map that loses nothing; the register behind bytes. No program in sight. -/
import Derived.Test.YtnnimkailajgaaaDoorBase
import Derived.WalkKit
namespace Go.Proofs.YtnnimkailajgaaaDoor
open Go.RowKit
set_option linter.unusedVariables false
set_option linter.unusedSimpArgs false

/-- What half a byte turns. -/
def halfT : List Nat := [0, 28, 56, 36, 112, 108, 72, 84, 224, 252, 216, 196, 144, 140, 168, 180]
/-- Half a step, and a step, of register and byte put together. -/
def fH (x : Nat) : Nat := (x / 16) ^^^ (halfT.getD (x % 16) 0)
def fS (x : Nat) : Nat := fH (fH x)
/-- A bit's step. -/
def fG (x : Nat) : Nat := if x % 2 = 1 then (x / 2) ^^^ 224 else x / 2
def fGn : Nat → Nat → Nat
  | 0, x => x
  | k + 1, x => fG (fGn k x)
def fHn : Nat → Nat → Nat
  | 0, x => x
  | k + 1, x => fH (fHn k x)

theorem fS_eq_fGn : ∀ x, x < 256 → fGn 8 x = fS x := by decide +kernel
theorem fH_lt : ∀ x, x < 256 → fH x < 256 := by decide +kernel
theorem fS_lt : ∀ x, x < 256 → fS x < 256 := by decide +kernel
theorem fG_lt : ∀ x, x < 256 → fG x < 256 := by decide +kernel
theorem fS_zero : ∀ x, x < 256 → fS x = 0 → x = 0 := by decide +kernel
theorem half_xor : ∀ x, x < 16 → ∀ y, y < 16 → halfT.getD (x ^^^ y) 0 = halfT.getD x 0 ^^^ halfT.getD y 0 := by decide +kernel
theorem xor_lt {x y : Nat} (hx : x < 256) (hy : y < 256) : x ^^^ y < 256 := Nat.xor_lt_two_pow (n := 8) hx hy
theorem fH_xor (x y : Nat) : fH (x ^^^ y) = fH x ^^^ fH y := by
  have h1 : (x ^^^ y) / 16 = x / 16 ^^^ y / 16 := by
    have := Nat.shiftRight_xor_distrib (a := x) (b := y) (i := 4)
    simpa [Nat.shiftRight_eq_div_pow] using this
  have h2 : (x ^^^ y) % 16 = x % 16 ^^^ y % 16 := Nat.xor_mod_two_pow (a := x) (b := y) (n := 4)
  unfold fH
  rw [h1, h2, half_xor _ (Nat.mod_lt _ (by omega)) _ (Nat.mod_lt _ (by omega))]
  ac_rfl
theorem fS_xor (x y : Nat) : fS (x ^^^ y) = fS x ^^^ fS y := by unfold fS; rw [fH_xor, fH_xor]
theorem fGn_lt (k x : Nat) (h : x < 256) : fGn k x < 256 := by
  induction k with
  | zero => exact h
  | succ k ih => exact fG_lt _ ih
theorem fHn_lt (k x : Nat) (h : x < 256) : fHn k x < 256 := by
  induction k with
  | zero => exact h
  | succ k ih => exact fH_lt _ ih

theorem xor_self_cancel (a b : Nat) : a ^^^ (a ^^^ b) = b := by rw [← Nat.xor_assoc, Nat.xor_self, Nat.zero_xor]
theorem xor_eq_zero {a b : Nat} (h : a ^^^ b = 0) : a = b := by
  have := xor_self_cancel a b
  rw [h, Nat.xor_zero] at this
  exact this
theorem fS_inj {x y : Nat} (hx : x < 256) (hy : y < 256) (h : fS x = fS y) : x = y := by
  have h1 : fS (x ^^^ y) = 0 := by rw [fS_xor, h, Nat.xor_self]
  exact xor_eq_zero (fS_zero _ (xor_lt hx hy) h1)

/-- The register behind bytes. -/
def reg : Nat → List Nat → Nat
  | r, [] => r
  | r, b :: l => reg (fS (r ^^^ b)) l
def Bytes (l : List Nat) : Prop := ∀ b ∈ l, b < 256
theorem Bytes.cons {b : Nat} {l : List Nat} (h : Bytes (b :: l)) : b < 256 ∧ Bytes l := ⟨h b (by simp), fun x hx => h x (by simp [hx])⟩
theorem reg_append (r : Nat) (l m : List Nat) : reg r (l ++ m) = reg (reg r l) m := by
  induction l generalizing r with
  | nil => rfl
  | cons b l ih => exact ih _
theorem reg_lt (r : Nat) (l : List Nat) (hr : r < 256) (hl : Bytes l) : reg r l < 256 := by
  induction l generalizing r with
  | nil => exact hr
  | cons b l ih => exact ih _ (fS_lt _ (xor_lt hr hl.cons.1)) hl.cons.2
theorem reg_snoc (r : Nat) (l : List Nat) (b : Nat) : reg r (l ++ [b]) = fS (reg r l ^^^ b) := by rw [reg_append]; rfl
/-- Linear: registers and rows that are as long. -/
theorem reg_xor (r s : Nat) (l m : List Nat) (h : l.length = m.length) : reg (r ^^^ s) (List.zipWith (· ^^^ ·) l m) = reg r l ^^^ reg s m := by
  induction l generalizing r s m with
  | nil => cases m with
    | nil => rfl
    | cons _ _ => simp at h
  | cons b l ih => cases m with
    | nil => simp at h
    | cons c m =>
      show reg (fS (r ^^^ s ^^^ (b ^^^ c))) _ = _
      have e : r ^^^ s ^^^ (b ^^^ c) = (r ^^^ b) ^^^ (s ^^^ c) := by ac_rfl
      rw [e, fS_xor, ih _ _ _ (by simpa using h)]
      rfl
theorem reg_inj {r s : Nat} {l : List Nat} (hr : r < 256) (hs : s < 256) (hl : Bytes l) (h : reg r l = reg s l) : r = s := by
  induction l generalizing r s with
  | nil => exact h
  | cons b l ih =>
    have h1 := ih (fS_lt _ (xor_lt hr hl.cons.1)) (fS_lt _ (xor_lt hs hl.cons.1)) hl.cons.2 h
    have h2 := fS_inj (xor_lt hr hl.cons.1) (xor_lt hs hl.cons.1) h1
    have h3 : r ^^^ s = 0 := by
      have e : r ^^^ s = (r ^^^ b) ^^^ (s ^^^ b) := by
        rw [show (r ^^^ b) ^^^ (s ^^^ b) = r ^^^ s ^^^ (b ^^^ b) by ac_rfl, Nat.xor_self, Nat.xor_zero]
      rw [e, h2, Nat.xor_self]
    exact xor_eq_zero h3

/-- Steps over bytes that are 0. -/
def zrs : Nat → Nat → Nat
  | 0, r => r
  | n + 1, r => zrs n (fS r)
theorem zrs_eq (n r : Nat) : zrs n r = reg r (List.replicate n 0) := by
  induction n generalizing r with
  | zero => rfl
  | succ n ih => show zrs n (fS r) = reg (fS (r ^^^ 0)) (List.replicate n 0); rw [ih, Nat.xor_zero]
theorem bytes_zeros (n : Nat) : Bytes (List.replicate n 0) := by
  intro b hb
  rw [List.mem_replicate] at hb
  omega
theorem zrs_lt (n r : Nat) (h : r < 256) : zrs n r < 256 := by rw [zrs_eq]; exact reg_lt _ _ h (bytes_zeros n)
theorem zrs_succ (n r : Nat) : zrs (n + 1) r = fS (zrs n r) := by
  induction n generalizing r with
  | zero => rfl
  | succ n ih => exact ih (fS r)
theorem zrs_zero (n : Nat) : zrs n 0 = 0 := by
  induction n with
  | zero => rfl
  | succ n ih => rw [zrs_succ, ih]; rfl
theorem zrs_eq_zero {n r : Nat} (hr : r < 256) (h : zrs n r = 0) : r = 0 := by
  rw [zrs_eq] at h
  refine reg_inj hr (by omega) (bytes_zeros n) ?_
  rw [h, ← zrs_eq, zrs_zero]

/-- What bytes that differ in the byte behind 'ahead' alone have of unlike registers. -/
theorem reg_turn (ahead behind : List Nat) (b c r : Nat) :
    reg r (ahead ++ b :: behind) ^^^ reg r (ahead ++ c :: behind) = zrs behind.length (fS (b ^^^ c)) := by
  rw [← reg_xor _ _ _ _ (by simp), Nat.xor_self]
  have e : List.zipWith (fun x1 x2 : Nat => x1 ^^^ x2) (ahead ++ b :: behind) (ahead ++ c :: behind) = List.replicate ahead.length 0 ++ (b ^^^ c) :: List.replicate behind.length 0 := by
    have z : ∀ l : List Nat, List.zipWith (fun x1 x2 : Nat => x1 ^^^ x2) l l = List.replicate l.length 0 := by
      intro l
      induction l with
      | nil => rfl
      | cons a l ih => rw [List.zipWith_cons_cons, ih, Nat.xor_self]; rfl
    rw [List.zipWith_append (by rfl), z, List.zipWith_cons_cons, z]
  rw [e, reg_append, ← zrs_eq, zrs_zero, zrs_eq]
  show reg (fS (0 ^^^ (b ^^^ c))) _ = _
  rw [Nat.zero_xor]

end Go.Proofs.YtnnimkailajgaaaDoor
