/-
  Walks. Conditions: none.
-/
import Derived.Test.YtdhhaglaikdpbaaB43
set_option linter.unusedVariables false
set_option linter.unusedSimpArgs false
namespace Go.Proofs.Ytdhhaglaikdpbaa
open Go.RowKit Go.SL
set_option maxHeartbeats 1000000
set_option maxRecDepth 1000000
attribute [local go_sem] fl_getD fl_get fl_set lk_def st_def gL_nil gL_zero gL_succ sL_nil_zero sL_nil_succ sL_zero sL_succ Option.getD_none FgK_app onlyL_nil onlyL_none onlyL_some setO_some toB_bool toB_undef yl_def
attribute [local go_sem high] GuardK_yl GuardL_yl
/-- The least and the greatest torque, as the halving finds them. -/
def hLo (L x0 : Int) : Int := min (rLo L x0) 10000000000001
def hHi (M x1 : Int) : Int := max (-1) (rHi M x1)
theorem hLo_bd (L x0 : Int) : 0 ≤ hLo L x0 ∧ hLo L x0 ≤ 10000000000001 := by unfold hLo rLo; split <;> omega
theorem hHi_bd (M x1 : Int) : -1 ≤ hHi M x1 ∧ hHi M x1 ≤ 10000000000000 := by unfold hHi rHi; omega
theorem halve_lo {ld th hd ot0 ot1 oh0 oh1 st0 st1 sp0 sp1 yi0 yi1 w0 x0 q : Int} (bk : BoltOk ld th hd ot0 ot1 oh0 oh1 st0 st1 sp0 sp1 yi0 yi1) (hq : 0 ≤ q ∧ q ≤ 10000000000000) :
    endT (armV ld th hd ot1 oh1) (max 0 (q + x0)) ≥ w0 ↔ hLo (leastV ld th hd ot1 oh1 w0) x0 ≤ q := by
  have ac := arm_bd ld th hd ot1 oh1 bk.hl bk.ht bk.hh (by have := bk.ho; omega) (by have := bk.hp; omega)
  have h0 : 0 ≤ max 0 (q + x0) := by omega
  have e : max 0 (q + x0) = max 0 (q + x0) := rfl
  unfold hLo rLo leastV ceilV endT
  have e1 : w0 ≤ 1000 * (max 0 (q + x0)) / (armV ld th hd ot1 oh1) ↔ w0 * (armV ld th hd ot1 oh1) ≤ 1000 * (max 0 (q + x0)) := Int.le_ediv_iff_mul_le (by omega)
  rw [ge_iff_le, e1]
  generalize w0 * (armV ld th hd ot1 oh1) = P at *
  clear e1
  split <;> omega
theorem halve_hi {ld th hd ot0 ot1 oh0 oh1 st0 st1 sp0 sp1 yi0 yi1 w1 x1 q : Int} (bk : BoltOk ld th hd ot0 ot1 oh0 oh1 st0 st1 sp0 sp1 yi0 yi1) (hw : 0 ≤ w1) (hq : 0 ≤ q ∧ q ≤ 10000000000000) :
    (endT (armV ld th hd ot0 oh0) (max 0 (q + x1)) ≤ yi0 ∧ endT (armV ld th hd ot0 oh0) (max 0 (q + x1)) ≤ w1) ↔ q ≤ hHi (mostV ld th hd ot0 oh0 w1 yi0) x1 := by
  have ab := arm_bd ld th hd ot0 oh0 bk.hl bk.ht bk.hh (by have := bk.ho; omega) (by have := bk.hp; omega)
  have hy := bk.hy
  unfold hHi rHi mostV ceilV endT
  have e2 : 1000 * (max 0 (q + x1)) / (armV ld th hd ot0 oh0) < yi0 + 1 ↔ 1000 * (max 0 (q + x1)) < (yi0 + 1) * (armV ld th hd ot0 oh0) := Int.ediv_lt_iff_lt_mul (by omega)
  have e3 : 1000 * (max 0 (q + x1)) / (armV ld th hd ot0 oh0) < w1 + 1 ↔ 1000 * (max 0 (q + x1)) < (w1 + 1) * (armV ld th hd ot0 oh0) := Int.ediv_lt_iff_lt_mul (by omega)
  generalize hD : 1000 * (max 0 (q + x1)) / (armV ld th hd ot0 oh0) = D at *
  rcases Int.le_total w1 yi0 with h | h
  · rw [Int.min_eq_left h]
    have p : 0 ≤ w1 * (armV ld th hd ot0 oh0) := Int.mul_nonneg hw (by omega)
    have p2 : (w1 + 1) * (armV ld th hd ot0 oh0) = w1 * (armV ld th hd ot0 oh0) + (armV ld th hd ot0 oh0) := by rw [Int.add_mul, Int.one_mul]
    clear e2
    rw [p2] at e3 ⊢
    generalize w1 * (armV ld th hd ot0 oh0) = Q at *
    omega
  · rw [Int.min_eq_right h]
    have p : 0 ≤ yi0 * (armV ld th hd ot0 oh0) := Int.mul_nonneg (by omega) (by omega)
    have p2 : (yi0 + 1) * (armV ld th hd ot0 oh0) = yi0 * (armV ld th hd ot0 oh0) + (armV ld th hd ot0 oh0) := by rw [Int.add_mul, Int.one_mul]
    clear e3
    rw [p2] at e2 ⊢
    generalize yi0 * (armV ld th hd ot0 oh0) = Q at *
    omega
/-- What the halving finds is what the program computes. -/
theorem halve_E (L M x0 x1 : Int) : (hHi M x1 < hLo L x0 ↔ rHi M x1 < rLo L x0) ∧ (¬ rHi M x1 < rLo L x0 → hLo L x0 = rLo L x0 ∧ hHi M x1 = rHi M x1) := by
  unfold hLo hHi rLo rHi
  constructor
  · split <;> omega
  · split <;> omega

end Go.Proofs.Ytdhhaglaikdpbaa
