/- The document's word on an end: the cases joined. -/
import Derived.Test.YtkikonknciffiaaHsRefE
import Derived.Test.YtkikonknciffiaaHsRefE1
import Derived.Test.YtkikonknciffiaaHsRefE3
import Derived.Test.YtkikonknciffiaaHsRefE4
import Derived.Test.YtkikonknciffiaaHsRefE5
namespace Go.Proofs.Ytkikonknciffiaa
open Go.RowKit
set_option linter.unusedVariables false
set_option linter.unusedSimpArgs false

theorem rends_any (a : Option Addr) (n ca : Nat) (z : Nat → En) (st : Int) (sd kd dl : Nat) (en : Bool) (id nn : Int) (dt : ByteArray) (er : Int) (w : World) (hE : HoldsE w a n z) (hn : n ≤ 1000) (hW : Wf z n) (hca : n ≤ ca) (hs : sd ≤ 1) (hdt : dt.size ≤ 1000) :
    Calls Try.prog 19 #[.slice a n ca, .agg #[.int .i64 st, .int .u8 (sd : Int), .int .u8 (kd : Int), .int .u8 (dl : Int), .bool en, .int .i64 id, .int .i64 nn, .string dt, .int .i64 er]] w fun e w' => e = .returned (.bool (endsR z n ⟨st, sd, kd, dl, en, id, nn, dt, er⟩)) ∧ Below w.heap.size w w' := by
  by_cases hc : 1 ≤ kd ∧ kd ≤ 5 ∧ dl ≠ 0 ∧ dl ≤ 63 ∧ ∃ I : Nat, I < n ∧ waitsP z sd dl kd n = (I : Int) ∧ (z I).id = id
  · obtain ⟨x1, x2, x3, x4, I, hI, hq, hid⟩ := hc
    by_cases k12 : kd = 1 ∨ kd = 2
    · exact rends_12 a n ca z st sd kd dl en id nn dt er w hE hn hW hca hs (by omega) (by omega) x3 (by omega) I hI hq hid k12 hdt
    · have k1 : ¬ kd = 1 := fun h => k12 (Or.inl h)
      have k2 : ¬ kd = 2 := fun h => k12 (Or.inr h)
      by_cases k3 : kd = 3
      · exact rends_3 a n ca z st sd kd dl en id nn dt er w hE hn hW hca hs (by omega) (by omega) x3 (by omega) I hI hq hid k3 hdt
      · by_cases k4 : kd = 4
        · exact rends_4 a n ca z st sd kd dl en id nn dt er w hE hn hW hca hs (by omega) (by omega) x3 (by omega) I hI hq hid k1 k2 k3 k4 hdt
        · exact rends_5 a n ca z st sd kd dl en id nn dt er w hE hn hW hca hs (by omega) (by omega) x3 (by omega) I hI hq hid k1 k2 k3 k4 hdt
  · exact rends_bad a n ca z st sd kd dl en id nn dt er w hE hn hW hca hs (fun x1 x2 x3 x4 I hI hq hid => hc ⟨x1, x2, x3, x4, I, hI, hq, hid⟩) hdt
end Go.Proofs.Ytkikonknciffiaa
