/-
  Walks. Conditions: none.
-/
import Derived.Test.YtdhdfdaclbfkiaaWr
import Derived.Test.YtdhdfdaclbfkiaaS22
set_option linter.unusedVariables false
set_option linter.unusedSimpArgs false
namespace Go.Proofs.Ytdhdfdaclbfkiaa
open Go.RowKit Go.SL
set_option maxHeartbeats 1000000
set_option maxRecDepth 1000000
def ceilV (n b : Int) : Int := -(-n / b)
theorem ediv_bd (n b B : Int) (hb : 1 ≤ b) (h1 : -B ≤ n) (h2 : n ≤ B) : -B ≤ n / b ∧ n / b ≤ B := by
  constructor
  · refine Int.le_ediv_of_mul_le (by omega) ?_
    have : -B * b ≤ -B * 1 := Int.mul_le_mul_of_nonpos_left (by omega) (by omega)
    omega
  · refine Int.ediv_le_of_le_mul (by omega) ?_
    have : B * 1 ≤ B * b := Int.mul_le_mul_of_nonneg_left hb (by omega)
    omega

end Go.Proofs.Ytdhdfdaclbfkiaa
