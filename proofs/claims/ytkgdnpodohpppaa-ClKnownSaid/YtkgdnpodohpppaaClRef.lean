/- The reference's Split. -/
import Derived.Test.YtkgdnpodohpppaaClSplit
import Derived.Test.YtkgdnpodohpppaaRegion
import Derived.IntWalk
import Derived.Deep.CutRange
import Derived.Deep.DeepCutAuto
import Derived.Deep.CutBlock
namespace Go.Proofs.Ytkgdnpodohpppaa
open Go.RowKit
set_option linter.unusedVariables false
set_option linter.unusedSimpArgs false

theorem grown_drew (w : World) : w.grownBy w.drew none := ⟨rfl, rfl, rfl, Nat.le_refl _, fun _ _ _ => rfl⟩
theorem below_append {w v1 : World} {A : Nat} {u : Value} {e : TypeId} {k : Nat} {xs : List Value} {o1 o2 : Obj} (h : w.ownsRow A e 1 u k xs) (hA : A ≤ w.heap.size) (hg : ((w.alloc o1).alloc o2).drew.grownBy v1 u.ownBlock) : Below A w v1 := by
  have hb : Below A w ((w.alloc o1).alloc o2).drew := (((Below.refl A w).alloc hA o1).alloc (by simp; omega) o2).drew
  refine hb.grown hg (Nat.le_trans hA hb.size) fun j ej => ?_
  rcases h.2 with ⟨rfl, _⟩ | ⟨g, cap, cur, rfl, hb, _, _⟩
  · simp [Value.ownBlock] at ej
  · obtain rfl : g = j := by simpa [Value.ownBlock] using ej
    exact hb

theorem rsplit_no (s : ByteArray) (n1 : Int) (w : World) (h : n1 < 2) :
    Calls Try.prog 9 #[.string s, .int .i64 n1] w fun e w' => e = .returned (.tuple #[.slice none 0 0, .int .i64 2]) ∧ w = w' := by
  go_enter Try.func9, Try.ntmps9
  go_wp2
  go_ret2
  exact ⟨rfl, rfl⟩

set_option maxRecDepth 100000 in
set_option maxHeartbeats 4000000 in
theorem rsplit_ok (s : ByteArray) (n1 : Int) (size : Nat) (w : World) (h : 2 ≤ n1) (hn : n1 ≤ 9223372036854775807) (hz : (size : Int) = min n1 128 - 1) (hs : s.size ≤ 1000000) :
    Calls Try.prog 9 #[.string s, .int .i64 n1] w (SplitOk s size w) := by
  obtain ⟨i0, hi, hz0, hz1, hz2⟩ := info_parts strow
  have h1 : 1 ≤ size := by omega
  have h2 : size ≤ 127 := by omega
  have hN := pcN_le s.size size hs
  have hlt : ¬ n1 < 2 := by omega
  go_enter Try.func9, Try.ntmps9
  go_upto_region 3 with (fail)
  go_cut [6] from 13 to 16 (fun s6 wx => s6 = .int .i64 (size : Int) ∧ w = wx)
  case first =>
    by_cases hc : n1 ≤ 128
    · obtain rfl : n1 = (size : Int) + 1 := by omega
      have e1 : (size : Int) + 1 - 1 = size := by omega
      clear hz
      go_wp2
      go_meet
      exact ⟨rfl, rfl⟩
    · have e1 : (127 : Int) = size := by omega
      have E1 := hide e1
      clear hz e1
      go_wp2
      go_meet
      exact ⟨by rw [E1.out], rfl⟩
  case rest =>
  obtain ⟨rfl, rfl⟩ := hcut
  clear hlt h hz
  generalize Value.int IntKind.i64 n1 = X
  have hq : ((s.size : Int) + (size : Int) - 1) / (size : Int) = (((s.size + size - 1) / size : Nat) : Int) := by
    rw [Int.natCast_ediv]
    congr 1
    omega
  have hN1 := pcN_pos s.size size h1
  have HQ := hide hq
  clear hq
  go_upto_if 24 with (fail)
  go_cut [7] from 11 to 25 (fun s7 wx => s7 = .int .i64 (pcN s.size size : Int) ∧ w = wx)
  case first =>
    by_cases h0 : s.size = 0
    · have hn0 : pcN s.size size = 1 := by unfold pcN; rw [if_pos h0]
      have hq0 : (s.size + size - 1) / size = 0 := by rw [Nat.div_eq_zero_iff]; omega
      rw [HQ.out, hq0]
      clear HQ
      go_wp2
      go_meet
      exact ⟨by rw [hn0]; rfl, rfl⟩
    · have hn0 : pcN s.size size = (s.size + size - 1) / size := by unfold pcN; rw [if_neg h0]
      rw [HQ.out, ← hn0]
      clear HQ
      have hq1 : ((pcN s.size size : Int) == 0) = false := by rw [beq_eq_false_iff_ne]; omega
      go_wp2
      go_meet
      exact ⟨rfl, rfl⟩
  case rest =>
  obtain ⟨rfl, rfl⟩ := hcut
  clear HQ
  go_wp2
  go_loopw [8, 9] (fun v i wr => ∃ k : Nat, k ≤ pcN s.size size ∧ i = .int .i64 (k : Int) ∧ wr.ownsRow w.heap.size 9 1 v k (strs (pc s size) k) ∧ Below w.heap.size w wr) (fun _ i _ => pcN s.size size - (intOf i).toNat)
  case atStart => exact ⟨0, Nat.zero_le _, rfl, World.ownsRow_nil _ _ _ _, Below.refl _ _⟩
  case round =>
    obtain ⟨k, hk, rfl, hrow, hB⟩ := hrel
    by_cases hkn : k < pcN s.size size
    · obtain ⟨H0, hH0⟩ : ∃ H0 : Nat, H0 = if k = 0 then 129 else 1 := ⟨_, rfl⟩
      obtain ⟨H, hH⟩ : ∃ H : Nat, H = pcHead (pcN s.size size) k := ⟨_, rfl⟩
      have HH0 := hide hH0
      have HH := hide hH
      clear hH0 hH
      go_upto_if 31 with (fail)
      go_cut [10] from 25 to 33 (fun s10 wx => s10 = .int .i64 (H0 : Int) ∧ wr = wx)
      case first =>
        by_cases h0 : k = 0
        · have b0 : ((k : Int) == 0) = true := by rw [beq_iff_eq]; omega
          have e0 := HH0.out
          rw [if_pos h0] at e0
          rw [b0]
          clear HH0 HH b0 h0
          go_wp2
          go_meet
          exact ⟨by rw [e0]; rfl, rfl⟩
        · have b0 : ((k : Int) == 0) = false := by rw [beq_eq_false_iff_ne]; omega
          have e0 := HH0.out
          rw [if_neg h0] at e0
          rw [b0]
          clear HH0 HH b0 h0
          go_wp2
          go_meet
          exact ⟨by rw [e0]; rfl, rfl⟩
      case rest =>
      obtain ⟨rfl, rfl⟩ := hcut
      have hb0 : H0 ≤ 129 := by rw [HH0.out]; split <;> omega
      go_upto_if 37 with (fail)
      go_cut [10] from 25 to 39 (fun s10 wx => s10 = .int .i64 (H : Int) ∧ wr = wx)
      case first =>
        have e0 := HH.out
        unfold pcHead at e0
        rw [← HH0.out] at e0
        by_cases h0 : k + 1 = pcN s.size size
        · have b0 : ((k : Int) == (pcN s.size size : Int) - 1) = true := by rw [beq_iff_eq]; omega
          rw [if_pos h0] at e0
          rw [b0]
          clear HH0 HH b0 h0
          go_wp2
          go_meet
          exact ⟨by rw [e0]; rfl, rfl⟩
        · have b0 : ((k : Int) == (pcN s.size size : Int) - 1) = false := by rw [beq_eq_false_iff_ne]; omega
          rw [if_neg h0] at e0
          rw [b0]
          clear HH0 HH b0 h0
          go_wp2
          go_meet
          exact ⟨by rw [e0]; rfl, rfl⟩
      case rest =>
      obtain ⟨rfl, rfl⟩ := hcut
      have hb1 : H ≤ 193 := by
        have e0 := HH.out
        unfold pcHead at e0
        rw [← HH0.out] at e0
        rw [e0]
        split <;> omega
      clear HH0
      go_upto_region 16 with (fail)
      have hks : k * size ≤ s.size := by
        rcases Nat.eq_zero_or_pos k with rfl | hp
        · omega
        · have hm := (pcN_more s.size size (k - 1) h1).2 (by omega)
          have : k * size = (k - 1) * size + size := by rw [show k = (k - 1) + 1 by omega, Nat.add_mul, Nat.one_mul]; rfl
          omega
      have hk1 : (k + 1) * size = k * size + size := by rw [Nat.add_mul, Nat.one_mul]
      obtain ⟨A, hA⟩ : ∃ A : Nat, A = k * size := ⟨_, rfl⟩
      obtain ⟨E, hE⟩ : ∃ E : Nat, E = A + size := ⟨_, rfl⟩
      have hw1 : (k : Int) * (size : Int) = (A : Int) := by rw [hA, Int.natCast_mul]
      have hw2 : ((k : Int) + 1) * (size : Int) = (E : Int) := by rw [hE, hA, ← hk1, Int.natCast_mul]; rfl
      have hpc : pc s size k = ⟨#[UInt8.ofNat H]⟩ ++ s.extract A (if E < s.size then E else s.size) := by
        unfold pc
        rw [← HH.out, hk1, ← hA, ← hE]
        congr 2
        split <;> omega
      have r1 : IntKind.i64.wrap (A : Int) = A := IntWalk.i64_in _ (by omega)
      have r2 : IntKind.i64.wrap ((k : Int) + 1) = (k : Int) + 1 := IntWalk.i64_in _ (by omega)
      have r3 : IntKind.i64.wrap (E : Int) = E := IntWalk.i64_in _ (by omega)
      have r4 : IntKind.u8.wrap (H : Int) = H := by rw [IntKind.wrap_u8]; omega
      rw [← hA] at hks
      have hAE : A ≤ E := by omega
      have hA' := hide hA
      have hE' := hide hE
      have HP := hide hpc
      clear hA hE hpc hk1
      obtain ⟨hsz, hgr⟩ : wr.heap.size ≤ wr.heap.size ∧ True := ⟨Nat.le_refl _, trivial⟩
      have hcv := run_head wr.heap.size H (wr.alloc (.cells #[.int .u8 (H : Int)] 5)).drew (World.cell?_alloc_new _ _ _ _)
      by_cases hle : E < s.size
      · have hle2 : E ≤ s.size := by omega
        have hcat : ¬ 9223372036854775807 < 1 + (E - A) := by omega
        rw [if_pos hle] at HP
        refine wp_region_any (by kernel_rfl) ?_
        change wpAny _ _ _ _ _ _ _ (World.drew _)
        refine take_at 0 40 rfl rfl (by kernel_rfl) (by kernel_rfl) (by kernel_rfl) (fun _ _ _ h => h) rfl (fun wq => by go_simp; first | done | with_reducible rfl) ?_
        simp only [Act.put, List.setIfInBounds_toArray, List.set_cons_zero, List.set_cons_succ]
        refine take_at 1 41 rfl rfl (by kernel_rfl) (by kernel_rfl) (by kernel_rfl) (fun _ _ _ h => h) rfl (fun wq => by go_simp; first | done | with_reducible rfl) ?_
        simp only [Act.put, List.setIfInBounds_toArray, List.set_cons_zero, List.set_cons_succ]
        refine take_at 2 42 rfl rfl (by kernel_rfl) (by kernel_rfl) (by kernel_rfl) (fun _ _ _ h => h) rfl (fun wq => by go_simp; first | done | with_reducible rfl) ?_
        simp only [Act.put, List.setIfInBounds_toArray, List.set_cons_zero, List.set_cons_succ]
        refine take_at 5 45 rfl rfl (by kernel_rfl) (by kernel_rfl) (by kernel_rfl) (fun _ _ _ h => h) rfl (fun wq => by go_simp; first | done | with_reducible rfl) ?_
        simp only [Act.put, List.setIfInBounds_toArray, List.set_cons_zero, List.set_cons_succ]
        refine take_at 6 46 rfl rfl (by kernel_rfl) (by kernel_rfl) (by kernel_rfl) (fun _ _ _ h => h) rfl (fun wq => by go_simp; first | done | with_reducible rfl) ?_
        simp only [Act.put, List.setIfInBounds_toArray, List.set_cons_zero, List.set_cons_succ]
        refine take_at 7 47 rfl rfl (by kernel_rfl) (by kernel_rfl) (by kernel_rfl) (fun _ _ _ h => h) rfl (fun wq => by go_simp; first | done | with_reducible rfl) ?_
        simp only [Act.put, List.setIfInBounds_toArray, List.set_cons_zero, List.set_cons_succ]
        refine take_at 8 48 rfl rfl (by kernel_rfl) (by kernel_rfl) (by kernel_rfl) (fun _ _ _ h => h) rfl (fun wq => by go_simp; first | done | with_reducible rfl) ?_
        simp only [Act.put, List.setIfInBounds_toArray, List.set_cons_zero, List.set_cons_succ]
        refine take_at 9 49 rfl rfl (by kernel_rfl) (by kernel_rfl) (by kernel_rfl) (fun _ _ _ h => h) rfl (fun wq => by go_simp; first | done | with_reducible rfl) ?_
        simp only [Act.put, List.setIfInBounds_toArray, List.set_cons_zero, List.set_cons_succ]
        refine take_at 10 50 rfl rfl (by kernel_rfl) (by kernel_rfl) (by kernel_rfl) (fun _ _ _ h => h) rfl (fun wq => by go_simp; first | done | with_reducible rfl) ?_
        simp only [Act.put, List.setIfInBounds_toArray, List.set_cons_zero, List.set_cons_succ]
        refine take_at 11 51 rfl rfl (by kernel_rfl) (by kernel_rfl) (by kernel_rfl) (fun _ _ _ h => h) rfl (fun wq => by go_simp; first | done | with_reducible rfl) ?_
        simp only [Act.put, List.setIfInBounds_toArray, List.set_cons_zero, List.set_cons_succ]
        refine take_at 12 52 rfl rfl (by kernel_rfl) (by kernel_rfl) (by kernel_rfl) (fun _ _ _ h => h) rfl (fun wq => by go_simp; first | done | with_reducible rfl) ?_
        simp only [Act.put, List.setIfInBounds_toArray, List.set_cons_zero, List.set_cons_succ]
        refine take_at 13 53 rfl rfl (by kernel_rfl) (by kernel_rfl) (by kernel_rfl) (fun _ _ _ h => h) rfl (fun wq => by go_simp; first | done | with_reducible rfl) ?_
        simp only [Act.put, List.setIfInBounds_toArray, List.set_cons_zero, List.set_cons_succ]
        refine take_at 14 54 rfl rfl (by kernel_rfl) (by kernel_rfl) (by kernel_rfl) (fun _ _ _ h => h) rfl (fun wq => by go_simp; first | done | with_reducible rfl) ?_
        simp only [Act.put, List.setIfInBounds_toArray, List.set_cons_zero, List.set_cons_succ]
        refine take_at 15 55 rfl rfl (by kernel_rfl) (by kernel_rfl) (by kernel_rfl) (fun _ _ _ h => h) rfl (fun wq => by go_simp; first | done | with_reducible rfl) ?_
        simp only [Act.put, List.setIfInBounds_toArray, List.set_cons_zero, List.set_cons_succ]
        refine take_at 16 56 rfl rfl (by kernel_rfl) (by kernel_rfl) (by kernel_rfl) (fun _ _ _ h => h) rfl (fun wq => by go_simp; first | done | with_reducible rfl) ?_
        simp only [Act.put, List.setIfInBounds_toArray, List.set_cons_zero, List.set_cons_succ]
        refine lone_at 3 rfl (by kernel_rfl) rfl (fun K hK => ?_)
        go_simp
        refine hK _ _ ?_; clear hK K
        refine lone_at 4 rfl (by kernel_rfl) rfl (fun K hK => ?_)
        go_simp
        refine hK _ _ ?_; clear hK K
        refine take_at 17 57 rfl rfl (by kernel_rfl) (by kernel_rfl) (by kernel_rfl) (fun _ _ _ h => h) rfl (fun wq => by go_simp; first | done | with_reducible rfl) ?_
        simp only [Act.put, List.setIfInBounds_toArray, List.set_cons_zero, List.set_cons_succ]
        refine lone_at 18 rfl (by kernel_rfl) rfl (fun K hK => ?_)
        go_simp
        refine hK _ _ ?_; clear hK K
        refine lone_at 19 rfl (by kernel_rfl) rfl (fun K hK => ?_)
        refine wp_append_own _ (.tmp 40) (.tmp 58) 23 rfl w.heap.size 9 i0 (.string ⟨#[]⟩) 1 16 Try.underlying23 hi hz0 hz1 hz2 rfl (by decide) u8 k _ rfl ((hrow.alloc _).alloc _) ⟨wr.heap.size + 1, 0, none⟩ 1 1 [.string (pc s size k)] ?_ rfl ?_ (by simp [Value.oneCell']) (by unfold maxLen; omega) (by omega) (by have := hB.size; simp; omega) ?_
        · rfl
        · have := cell_one_new (wr.alloc (.cells #[.int .u8 (H : Int)] 5)) (.string (⟨#[UInt8.ofNat H]⟩ ++ s.extract A E)) 9
          rw [World.size_alloc] at this
          rw [HP.out]
          exact this
        intro v' w1 hown' hgrow _
        refine hK _ _ ?_; clear hK K
        refine take_at 20 8 rfl rfl (by kernel_rfl) (by kernel_rfl) (by kernel_rfl) (fun _ _ _ h => h) rfl (fun wq => by go_simp; first | done | with_reducible rfl) ?_
        simp only [Act.put, List.setIfInBounds_toArray, List.set_cons_zero, List.set_cons_succ]
        refine wpAny_done (by kernel_rfl) ?_ _
        go_wp2
        go_roundw
        case rel => exact ⟨k + 1, hkn, by go_num, by rw [strs_succ]; exact hown', hB.trans (below_append hrow hB.size hgrow)⟩
        case measure => simp [intOf]; omega
      · have hcat : ¬ 9223372036854775807 < 1 + (s.size - A) := by omega
        rw [if_neg hle] at HP
        refine wp_region_any (by kernel_rfl) ?_
        change wpAny _ _ _ _ _ _ _ (World.drew _)
        refine take_at 0 40 rfl rfl (by kernel_rfl) (by kernel_rfl) (by kernel_rfl) (fun _ _ _ h => h) rfl (fun wq => by go_simp; first | done | with_reducible rfl) ?_
        simp only [Act.put, List.setIfInBounds_toArray, List.set_cons_zero, List.set_cons_succ]
        refine take_at 1 41 rfl rfl (by kernel_rfl) (by kernel_rfl) (by kernel_rfl) (fun _ _ _ h => h) rfl (fun wq => by go_simp; first | done | with_reducible rfl) ?_
        simp only [Act.put, List.setIfInBounds_toArray, List.set_cons_zero, List.set_cons_succ]
        refine take_at 2 42 rfl rfl (by kernel_rfl) (by kernel_rfl) (by kernel_rfl) (fun _ _ _ h => h) rfl (fun wq => by go_simp; first | done | with_reducible rfl) ?_
        simp only [Act.put, List.setIfInBounds_toArray, List.set_cons_zero, List.set_cons_succ]
        refine take_at 5 45 rfl rfl (by kernel_rfl) (by kernel_rfl) (by kernel_rfl) (fun _ _ _ h => h) rfl (fun wq => by go_simp; first | done | with_reducible rfl) ?_
        simp only [Act.put, List.setIfInBounds_toArray, List.set_cons_zero, List.set_cons_succ]
        refine take_at 6 46 rfl rfl (by kernel_rfl) (by kernel_rfl) (by kernel_rfl) (fun _ _ _ h => h) rfl (fun wq => by go_simp; first | done | with_reducible rfl) ?_
        simp only [Act.put, List.setIfInBounds_toArray, List.set_cons_zero, List.set_cons_succ]
        refine take_at 7 47 rfl rfl (by kernel_rfl) (by kernel_rfl) (by kernel_rfl) (fun _ _ _ h => h) rfl (fun wq => by go_simp; first | done | with_reducible rfl) ?_
        simp only [Act.put, List.setIfInBounds_toArray, List.set_cons_zero, List.set_cons_succ]
        refine take_at 8 48 rfl rfl (by kernel_rfl) (by kernel_rfl) (by kernel_rfl) (fun _ _ _ h => h) rfl (fun wq => by go_simp; first | done | with_reducible rfl) ?_
        simp only [Act.put, List.setIfInBounds_toArray, List.set_cons_zero, List.set_cons_succ]
        refine take_at 9 49 rfl rfl (by kernel_rfl) (by kernel_rfl) (by kernel_rfl) (fun _ _ _ h => h) rfl (fun wq => by go_simp; first | done | with_reducible rfl) ?_
        simp only [Act.put, List.setIfInBounds_toArray, List.set_cons_zero, List.set_cons_succ]
        refine take_at 10 50 rfl rfl (by kernel_rfl) (by kernel_rfl) (by kernel_rfl) (fun _ _ _ h => h) rfl (fun wq => by go_simp; first | done | with_reducible rfl) ?_
        simp only [Act.put, List.setIfInBounds_toArray, List.set_cons_zero, List.set_cons_succ]
        refine take_at 11 51 rfl rfl (by kernel_rfl) (by kernel_rfl) (by kernel_rfl) (fun _ _ _ h => h) rfl (fun wq => by go_simp; first | done | with_reducible rfl) ?_
        simp only [Act.put, List.setIfInBounds_toArray, List.set_cons_zero, List.set_cons_succ]
        refine take_at 12 52 rfl rfl (by kernel_rfl) (by kernel_rfl) (by kernel_rfl) (fun _ _ _ h => h) rfl (fun wq => by go_simp; first | done | with_reducible rfl) ?_
        simp only [Act.put, List.setIfInBounds_toArray, List.set_cons_zero, List.set_cons_succ]
        refine take_at 13 53 rfl rfl (by kernel_rfl) (by kernel_rfl) (by kernel_rfl) (fun _ _ _ h => h) rfl (fun wq => by go_simp; first | done | with_reducible rfl) ?_
        simp only [Act.put, List.setIfInBounds_toArray, List.set_cons_zero, List.set_cons_succ]
        refine take_at 14 54 rfl rfl (by kernel_rfl) (by kernel_rfl) (by kernel_rfl) (fun _ _ _ h => h) rfl (fun wq => by go_simp; first | done | with_reducible rfl) ?_
        simp only [Act.put, List.setIfInBounds_toArray, List.set_cons_zero, List.set_cons_succ]
        refine take_at 15 55 rfl rfl (by kernel_rfl) (by kernel_rfl) (by kernel_rfl) (fun _ _ _ h => h) rfl (fun wq => by go_simp; first | done | with_reducible rfl) ?_
        simp only [Act.put, List.setIfInBounds_toArray, List.set_cons_zero, List.set_cons_succ]
        refine take_at 16 56 rfl rfl (by kernel_rfl) (by kernel_rfl) (by kernel_rfl) (fun _ _ _ h => h) rfl (fun wq => by go_simp; first | done | with_reducible rfl) ?_
        simp only [Act.put, List.setIfInBounds_toArray, List.set_cons_zero, List.set_cons_succ]
        refine lone_at 3 rfl (by kernel_rfl) rfl (fun K hK => ?_)
        go_simp
        refine hK _ _ ?_; clear hK K
        refine lone_at 4 rfl (by kernel_rfl) rfl (fun K hK => ?_)
        go_simp
        refine hK _ _ ?_; clear hK K
        refine take_at 17 57 rfl rfl (by kernel_rfl) (by kernel_rfl) (by kernel_rfl) (fun _ _ _ h => h) rfl (fun wq => by go_simp; first | done | with_reducible rfl) ?_
        simp only [Act.put, List.setIfInBounds_toArray, List.set_cons_zero, List.set_cons_succ]
        refine lone_at 18 rfl (by kernel_rfl) rfl (fun K hK => ?_)
        go_simp
        refine hK _ _ ?_; clear hK K
        refine lone_at 19 rfl (by kernel_rfl) rfl (fun K hK => ?_)
        refine wp_append_own _ (.tmp 40) (.tmp 58) 23 rfl w.heap.size 9 i0 (.string ⟨#[]⟩) 1 16 Try.underlying23 hi hz0 hz1 hz2 rfl (by decide) u8 k _ rfl ((hrow.alloc _).alloc _) ⟨wr.heap.size + 1, 0, none⟩ 1 1 [.string (pc s size k)] ?_ rfl ?_ (by simp [Value.oneCell']) (by unfold maxLen; omega) (by omega) (by have := hB.size; simp; omega) ?_
        · rfl
        · have := cell_one_new (wr.alloc (.cells #[.int .u8 (H : Int)] 5)) (.string (⟨#[UInt8.ofNat H]⟩ ++ s.extract A s.size)) 9
          rw [World.size_alloc] at this
          rw [HP.out]
          exact this
        intro v' w1 hown' hgrow _
        refine hK _ _ ?_; clear hK K
        refine take_at 20 8 rfl rfl (by kernel_rfl) (by kernel_rfl) (by kernel_rfl) (fun _ _ _ h => h) rfl (fun wq => by go_simp; first | done | with_reducible rfl) ?_
        simp only [Act.put, List.setIfInBounds_toArray, List.set_cons_zero, List.set_cons_succ]
        refine wpAny_done (by kernel_rfl) ?_ _
        go_wp2
        go_roundw
        case rel => exact ⟨k + 1, hkn, by go_num, by rw [strs_succ]; exact hown', hB.trans (below_append hrow hB.size hgrow)⟩
        case measure => simp [intOf]; omega
    · obtain rfl : k = pcN s.size size := by omega
      go_wp2
      go_ret2
      exact ⟨_, rfl, hrow, hB⟩

end Go.Proofs.Ytkgdnpodohpppaa
