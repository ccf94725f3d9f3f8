/- The walk of chapter 3's law FieldBack: it answers true. -/
import Derived.Test.YtjnkfcbigldopaaDoorFieldLaw
namespace Go.Proofs.YtjnkfcbigldopaaDoor
open Go.RowKit
set_option linter.unusedVariables false
set_option linter.unusedSimpArgs false

set_option maxHeartbeats 8000000 in
set_option maxRecDepth 100000 in
theorem fieldBack_any (k : Int) (p : Bool) (s r c : Int) (w : World) (hh : Octs w) (k1 : 0 ≤ k) (k2 : k ≤ 255) (s1 : 0 ≤ s) (s2 : s ≤ 255) (r1 : 0 ≤ r) (r2 : r ≤ 255) (c1 : 0 ≤ c) (c2 : c ≤ 255) :
    Calls Tryd.prog 6 #[.int .u8 k, .bool p, .int .u8 s, .int .u8 r, .int .u8 c] w fun e w' => e = .returned (.bool true) ∧ Below w.heap.size w w' := by
  obtain ⟨k, rfl⟩ := Int.eq_ofNat_of_zero_le k1
  obtain ⟨s, rfl⟩ := Int.eq_ofNat_of_zero_le s1
  obtain ⟨r, rfl⟩ := Int.eq_ofNat_of_zero_le r1
  obtain ⟨c, rfl⟩ := Int.eq_ofNat_of_zero_le c1
  have aP := hide (fput_any k p s r w hh (by omega) (by omega) (by omega))
  have aG := hide (fget_any c w hh (by omega))
  by_cases hok : putOk k s r = true
  · have HP := hide (putR_ok p hok)
    have hx := putN_lt p hok
    have HX := hide (getR_is hok (rfl : putN k p s r = putN k p s r))
    have aX := hide (fget_any (putN k p s r) w hh hx)
    by_cases h0 : gk c = 0
    · have HG := hide (getR_none h0)
      generalize putN k p s r = x at HP HX aX hx
      clear hok h0
      go_enter Tryd.func6, Tryd.ntmps6
      go_wp2_with fail
      refine aP.out.mono ?_
      rw [HP.out]
      rintro e w' ⟨rfl, rfl⟩
      go_wp2_with fail
      refine aX.out.mono ?_
      rw [HX.out]
      rintro e w' ⟨rfl, rfl⟩
      go_wp2_with fail
      refine aG.out.mono ?_
      rw [HG.out]
      rintro e w' ⟨rfl, rfl⟩
      go_wp2_with fail
      refine (fworks_any _ hh).mono ?_
      rintro e w' ⟨rfl, rfl⟩
      go_wp2
      go_ret
      exact ⟨rfl, Below.refl _ _⟩
    · obtain ⟨hQ, hc⟩ := put_of_get (by omega) h0
      have HG := hide (getR_is hQ hc)
      have HQ := hide (putR_ok (gp c) hQ)
      rw [hc] at HQ
      have aQ := hide (fput_any (gk c) (gp c) (gs c) (gr c) w hh (by have := gk_le c; omega) (by have := gs_le c; omega) (by have := gr_le c (by omega); omega))
      by_cases hxc : putN k p s r = c
      · obtain ⟨q1, q2, q3, q4⟩ := get_put p hok
        rw [hxc] at q1 q2 q3 q4 HP HX aX
        rw [q1, q2, q3, q4] at HG HQ aQ
        clear hok h0 hQ hc hxc q1 q2 q3 q4 hx
        go_enter Tryd.func6, Tryd.ntmps6
        go_wp2_with fail
        refine aP.out.mono ?_
        rw [HP.out]
        rintro e w' ⟨rfl, rfl⟩
        go_wp2_with fail
        refine aX.out.mono ?_
        rw [HX.out]
        rintro e w' ⟨rfl, rfl⟩
        go_wp2_with fail
        refine aG.out.mono ?_
        rw [HG.out]
        rintro e w' ⟨rfl, rfl⟩
        go_wp2_with fail
        refine aQ.out.mono ?_
        rw [HQ.out]
        rintro e w' ⟨rfl, rfl⟩
        go_wp2_with fail
        refine (fworks_any _ hh).mono ?_
        rintro e w' ⟨rfl, rfl⟩
        go_wp2
        go_ret
        exact ⟨rfl, Below.refl _ _⟩
      · have hne : ¬ (gk c = k ∧ gp c = p ∧ gs c = s ∧ gr c = r) := fun h => hxc (by rw [← h.1, ← h.2.1, ← h.2.2.1, ← h.2.2.2]; exact hc)
        have hxb : (((putN k p s r : Nat) : Int) == (c : Int)) = false := by rw [beq_eq_false_iff_ne]; omega
        have d1 := gk_le c
        have d2 := gs_le c
        have d3 := gr_le c (by omega)
        clear hok h0 hQ hc hxc
        generalize putN k p s r = x at HP HX aX hxb hx
        generalize gk c = K at HG HQ aQ hne d1
        generalize gp c = P at HG HQ aQ hne
        generalize gs c = S at HG HQ aQ hne d2
        generalize gr c = R at HG HQ aQ hne d3
        by_cases g1 : K = k
        · subst g1
          by_cases g2 : P = p
          · subst g2
            by_cases g3 : S = s
            · subst g3
              have g4 : ((R : Int) == (r : Int)) = false := by rw [beq_eq_false_iff_ne]; intro h; exact hne ⟨rfl, rfl, rfl, by omega⟩
              clear hne
              go_enter Tryd.func6, Tryd.ntmps6
              go_wp2_with fail
              refine aP.out.mono ?_
              rw [HP.out]
              rintro e w' ⟨rfl, rfl⟩
              go_wp2_with fail
              refine aX.out.mono ?_
              rw [HX.out]
              rintro e w' ⟨rfl, rfl⟩
              go_wp2_with fail
              refine aG.out.mono ?_
              rw [HG.out]
              rintro e w' ⟨rfl, rfl⟩
              go_wp2_with fail
              refine aQ.out.mono ?_
              rw [HQ.out]
              rintro e w' ⟨rfl, rfl⟩
              go_wp2_with fail
              refine (fworks_any _ hh).mono ?_
              rintro e w' ⟨rfl, rfl⟩
              go_wp2
              go_ret
              exact ⟨rfl, Below.refl _ _⟩
            · have g4 : ((S : Int) == (s : Int)) = false := by rw [beq_eq_false_iff_ne]; omega
              clear hne g3
              go_enter Tryd.func6, Tryd.ntmps6
              go_wp2_with fail
              refine aP.out.mono ?_
              rw [HP.out]
              rintro e w' ⟨rfl, rfl⟩
              go_wp2_with fail
              refine aX.out.mono ?_
              rw [HX.out]
              rintro e w' ⟨rfl, rfl⟩
              go_wp2_with fail
              refine aG.out.mono ?_
              rw [HG.out]
              rintro e w' ⟨rfl, rfl⟩
              go_wp2_with fail
              refine aQ.out.mono ?_
              rw [HQ.out]
              rintro e w' ⟨rfl, rfl⟩
              go_wp2_with fail
              refine (fworks_any _ hh).mono ?_
              rintro e w' ⟨rfl, rfl⟩
              go_wp2
              go_ret
              exact ⟨rfl, Below.refl _ _⟩
          · have g4 : (P == p) = false := by rw [beq_eq_false_iff_ne]; exact g2
            clear hne g2
            go_enter Tryd.func6, Tryd.ntmps6
            go_wp2_with fail
            refine aP.out.mono ?_
            rw [HP.out]
            rintro e w' ⟨rfl, rfl⟩
            go_wp2_with fail
            refine aX.out.mono ?_
            rw [HX.out]
            rintro e w' ⟨rfl, rfl⟩
            go_wp2_with fail
            refine aG.out.mono ?_
            rw [HG.out]
            rintro e w' ⟨rfl, rfl⟩
            go_wp2_with fail
            refine aQ.out.mono ?_
            rw [HQ.out]
            rintro e w' ⟨rfl, rfl⟩
            go_wp2_with fail
            refine (fworks_any _ hh).mono ?_
            rintro e w' ⟨rfl, rfl⟩
            go_wp2
            go_ret
            exact ⟨rfl, Below.refl _ _⟩
        · have g4 : ((K : Int) == (k : Int)) = false := by rw [beq_eq_false_iff_ne]; omega
          clear hne g1
          go_enter Tryd.func6, Tryd.ntmps6
          go_wp2_with fail
          refine aP.out.mono ?_
          rw [HP.out]
          rintro e w' ⟨rfl, rfl⟩
          go_wp2_with fail
          refine aX.out.mono ?_
          rw [HX.out]
          rintro e w' ⟨rfl, rfl⟩
          go_wp2_with fail
          refine aG.out.mono ?_
          rw [HG.out]
          rintro e w' ⟨rfl, rfl⟩
          go_wp2_with fail
          refine aQ.out.mono ?_
          rw [HQ.out]
          rintro e w' ⟨rfl, rfl⟩
          go_wp2_with fail
          refine (fworks_any _ hh).mono ?_
          rintro e w' ⟨rfl, rfl⟩
          go_wp2
          go_ret
          exact ⟨rfl, Below.refl _ _⟩
  · have HP := hide (putR_bad p (fun h => hok (decide_eq_true h)))
    by_cases h0 : gk c = 0
    · have HG := hide (getR_none h0)
      clear hok h0
      go_enter Tryd.func6, Tryd.ntmps6
      go_wp2_with fail
      refine aP.out.mono ?_
      rw [HP.out]
      rintro e w' ⟨rfl, rfl⟩
      go_wp2_with fail
      refine aG.out.mono ?_
      rw [HG.out]
      rintro e w' ⟨rfl, rfl⟩
      go_wp2_with fail
      refine (fworks_any _ hh).mono ?_
      rintro e w' ⟨rfl, rfl⟩
      go_wp2
      go_ret
      exact ⟨rfl, Below.refl _ _⟩
    · obtain ⟨hQ, hc⟩ := put_of_get (by omega) h0
      have HG := hide (getR_is hQ hc)
      have HQ := hide (putR_ok (gp c) hQ)
      rw [hc] at HQ
      have aQ := hide (fput_any (gk c) (gp c) (gs c) (gr c) w hh (by have := gk_le c; omega) (by have := gs_le c; omega) (by have := gr_le c (by omega); omega))
      clear hok h0 hQ hc
      generalize gk c = K at HG HQ aQ
      generalize gp c = P at HG HQ aQ
      generalize gs c = S at HG HQ aQ
      generalize gr c = R at HG HQ aQ
      go_enter Tryd.func6, Tryd.ntmps6
      go_wp2_with fail
      refine aP.out.mono ?_
      rw [HP.out]
      rintro e w' ⟨rfl, rfl⟩
      go_wp2_with fail
      refine aG.out.mono ?_
      rw [HG.out]
      rintro e w' ⟨rfl, rfl⟩
      go_wp2_with fail
      refine aQ.out.mono ?_
      rw [HQ.out]
      rintro e w' ⟨rfl, rfl⟩
      go_wp2_with fail
      refine (fworks_any _ hh).mono ?_
      rintro e w' ⟨rfl, rfl⟩
      go_wp2
      go_ret
      exact ⟨rfl, Below.refl _ _⟩

end Go.Proofs.YtjnkfcbigldopaaDoor
