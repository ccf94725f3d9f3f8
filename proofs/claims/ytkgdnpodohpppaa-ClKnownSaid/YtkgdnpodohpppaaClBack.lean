/- What a joiner makes of a message's pieces; the walk of the law ClBack: it answers true. -/
import Derived.Test.YtkgdnpodohpppaaClFew
import Derived.Test.YtkgdnpodohpppaaClOpen
import Derived.Test.YtkgdnpodohpppaaClJoinLaw
namespace Go.Proofs.Ytkgdnpodohpppaa
open Go.RowKit
set_option linter.unusedVariables false
set_option linter.unusedSimpArgs false

/-- What has come when k pieces have. -/
def accK (s : ByteArray) (size k : Nat) : ByteArray := s.extract 0 (min s.size (k * size))
/-- Where the joiner stands then. -/
def inK (N k : Nat) : Bool := decide (0 < k ∧ k < N)
def datK (s : ByteArray) (size k : Nat) : ByteArray := s.extract (k * size) (min s.size ((k + 1) * size))

theorem pcN_start (L size i : Nat) (h : 1 ≤ size) (hi : i < pcN L size) : i * size ≤ L := by
  rcases Nat.eq_zero_or_pos i with rfl | hp
  · omega
  · have hm := (pcN_more L size (i - 1) h).2 (by omega)
    have : i * size = (i - 1) * size + size := by rw [← Nat.succ_mul]; congr 1; omega
    omega
theorem accK_zero (s : ByteArray) (size : Nat) : accK s size 0 = ⟨#[]⟩ := by
  unfold accK
  rw [Nat.zero_mul, Nat.min_eq_right (Nat.zero_le _)]
  apply ByteArray.ext
  exact Array.eq_empty_of_size_eq_zero (by rw [show (s.extract 0 0).data.size = (s.extract 0 0).size from rfl, ByteArray.size_extract]; omega)
theorem accK_succ (s : ByteArray) (size k : Nat) (h : 1 ≤ size) (hk : k < pcN s.size size) : accK s size k ++ datK s size k = accK s size (k + 1) := by
  have h1 := pcN_start s.size size k h hk
  have h2 : (k + 1) * size = k * size + size := by rw [Nat.add_mul, Nat.one_mul]
  unfold accK datK
  rw [h2, Nat.min_eq_right h1, ByteArray.extract_append_extract]
  congr 1
  all_goals omega
theorem accK_end (s : ByteArray) (size : Nat) (h : 1 ≤ size) : accK s size (pcN s.size size) = s := by
  unfold accK
  rw [Nat.min_eq_left (pcN_mul s.size size h).1]
  exact ByteArray.extract_zero_size
theorem pc_bound (s : ByteArray) (size i : Nat) : (pc s size i).size ≤ size + 1 := by
  rw [pc_size]; omega

theorem pcHead_facts (N k : Nat) (hk : k < N) : pcHead N k < 256 ∧ pcHead N k % 64 = 1 ∧ decide (128 ≤ pcHead N k) = decide (k = 0) ∧ decide (64 ≤ pcHead N k % 128) = decide (k + 1 = N) := by
  unfold pcHead
  by_cases h1 : k = 0 <;> by_cases h2 : k + 1 = N
  · rw [if_pos h1, if_pos h2]; simp [h1, h2]
    omega
  · rw [if_pos h1, if_neg h2]; simp [h1, h2]
    omega
  · rw [if_neg h1, if_pos h2]; simp [h1, h2]
  · rw [if_neg h1, if_neg h2]; simp [h1, h2]
theorem join_pc (s : ByteArray) (size k : Nat) (h : 1 ≤ size) (hk : k < pcN s.size size) :
    joinR (inK (pcN s.size size) k) (pc s size k) = .returned (.tuple #[.string (datK s size k), .bool (decide (k + 1 = pcN s.size size)), .int .i64 0]) ∧ joinI (inK (pcN s.size size) k) (pc s size k) = inK (pcN s.size size) (k + 1) := by
  obtain ⟨f1, f2, f3, f4⟩ := pcHead_facts _ k hk
  have hsz : 0 < (pc s size k).size := by rw [pc_size]; omega
  have hh : (pc s size k)[0].toNat = pcHead (pcN s.size size) k := by
    have : (pc s size k)[0] = UInt8.ofNat (pcHead (pcN s.size size) k) := by
      simp only [pc]
      rw [ByteArray.getElem_append_left (by rw [head_size]; omega)]
      rfl
    rw [this]
    exact Nat.mod_eq_of_lt f1
  have hx : (pc s size k).extract 1 (pc s size k).size = datK s size k := by
    unfold pc datK
    have := ByteArray.extract_append_eq_right (a := ByteArray.mk #[UInt8.ofNat (pcHead (pcN s.size size) k)]) (b := s.extract (k * size) (min s.size ((k + 1) * size))) (i := 1) (j := (ByteArray.mk #[UInt8.ofNat (pcHead (pcN s.size size) k)] ++ s.extract (k * size) (min s.size ((k + 1) * size))).size) rfl (by rw [ByteArray.size_append])
    exact this
  have hb : ¬ (pc s size k)[0].toNat % 64 ≠ 1 := by rw [hh, f2]; simp
  have hf : ¬ inK (pcN s.size size) k = decide (128 ≤ (pc s size k)[0].toNat) := by
    rw [hh, f3]
    unfold inK
    rw [decide_eq_decide]
    omega
  obtain ⟨r1, r2⟩ := joinR_ok _ _ hsz hb hf
  rw [r1, r2, hh, f4, hx]
  refine ⟨rfl, ?_⟩
  unfold inK
  rw [← decide_not, decide_eq_decide]
  omega

end Go.Proofs.Ytkgdnpodohpppaa
