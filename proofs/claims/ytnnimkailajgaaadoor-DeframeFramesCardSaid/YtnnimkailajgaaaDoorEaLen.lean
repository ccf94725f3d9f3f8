/- ea.Length and the reference's Length. -/
import Derived.Test.YtnnimkailajgaaaDoorEaTake
namespace Go.Proofs.YtnnimkailajgaaaDoor
open Go.RowKit
set_option linter.unusedVariables false
set_option linter.unusedSimpArgs false

/-- The octets of a length. -/
def lenL (n : Nat) : List Nat := if n < 128 then [2 * n + 1] else [2 * (n % 128), n / 128]
theorem lenL_bytes {n : Nat} (h : n ≤ 32767) : Bytes (lenL n) := by
  unfold lenL
  split
  · exact bytes_cons (by omega) bytes_nil
  · exact bytes_cons (by omega) (bytes_cons (by omega) bytes_nil)
theorem lenL_len (n : Nat) : (lenL n).length = if n < 128 then 1 else 2 := by unfold lenL; split <;> rfl

end Go.Proofs.YtnnimkailajgaaaDoor
