/-
  Walks. Conditions: none.
-/
import Derived.Test.YtdhhaglaikdpbaaB53
import Derived.Test.YtdhhaglaikdpbaaB55
set_option linter.unusedVariables false
set_option linter.unusedSimpArgs false
namespace Go.Proofs.Ytdhhaglaikdpbaa
open Go.RowKit Go.SL
set_option maxHeartbeats 1000000
set_option maxRecDepth 1000000
theorem loose_mono {ld f f' fr fr' : Int} (hf : 0 ≤ f) (h1 : f ≤ f') (h2 : fr ≤ fr') : looseV ld f fr ≤ looseV ld f' fr' := by
  have m1 : f * (fr - 1000 * ld) ≤ f * (fr' - 1000 * ld) := Int.mul_le_mul_of_nonneg_left (by omega) hf
  unfold looseV ceilV
  by_cases h : 0 ≤ fr' - 1000 * ld
  · have m2 : f * (fr' - 1000 * ld) ≤ f' * (fr' - 1000 * ld) := Int.mul_le_mul_of_nonneg_right h1 h
    generalize f * (fr - 1000 * ld) = a at *
    generalize f' * (fr' - 1000 * ld) = b at *
    omega
  · have m3 : f * (fr - 1000 * ld) ≤ f * 0 := Int.mul_le_mul_of_nonneg_left (by omega) hf
    rw [Int.mul_zero] at m3
    generalize f * (fr - 1000 * ld) = a at *
    generalize f' * (fr' - 1000 * ld) = b at *
    omega
/-- Friction, and the loosening torque, in the truth of a number. -/
def qTr (th hd ot0 ot1 oh0 oh1 : Int) (i : Nat) : Int := fricV th hd (endV ot0 ot1 (i / 1)) (endV oh0 oh1 (i / 2))
def nTr (ld th hd ot0 ot1 oh0 oh1 f0 f1 : Int) (i : Nat) : Int := looseV ld (endV f0 f1 (i / 32)) (fricV th hd (endV ot0 ot1 (i / 1)) (endV oh0 oh1 (i / 2)))
theorem qTr_bd {ld th hd ot0 ot1 oh0 oh1 st0 st1 sp0 sp1 yi0 yi1 : Int} (bk : BoltOk ld th hd ot0 ot1 oh0 oh1 st0 st1 sp0 sp1 yi0 yi1) (i : Nat) : fricV th hd ot0 oh0 ≤ qTr th hd ot0 ot1 oh0 oh1 i ∧ qTr th hd ot0 ot1 oh0 oh1 i ≤ fricV th hd ot1 oh1 := by
  have ho := bk.ho
  have hp := bk.hp
  have i0 : ot0 ≤ endV ot0 ot1 (i / 1) ∧ endV ot0 ot1 (i / 1) ≤ ot1 := endV_bd (by omega) (by omega)
  have i1 : oh0 ≤ endV oh0 oh1 (i / 2) ∧ endV oh0 oh1 (i / 2) ≤ oh1 := endV_bd (by omega) (by omega)
  unfold qTr
  exact ⟨Int.add_le_add (Int.mul_le_mul_of_nonneg_left i0.1 bk.ht.1) (Int.mul_le_mul_of_nonneg_left i1.1 bk.hh.1), Int.add_le_add (Int.mul_le_mul_of_nonneg_left i0.2 bk.ht.1) (Int.mul_le_mul_of_nonneg_left i1.2 bk.hh.1)⟩
theorem looses_hold {ld th hd ot0 ot1 oh0 oh1 st0 st1 sp0 sp1 yi0 yi1 : Int} (bk : BoltOk ld th hd ot0 ot1 oh0 oh1 st0 st1 sp0 sp1 yi0 yi1) :
    allF (fun i => decide (armV ld th hd (endV ot0 ot1 (i / 1)) (endV oh0 oh1 (i / 2)) > 2000 * ld)) 256 = decide (fricV th hd ot0 oh0 > 1000 * ld)
    ∧ anyF (fun i => decide (armV ld th hd (endV ot0 ot1 (i / 1)) (endV oh0 oh1 (i / 2)) > 2000 * ld)) 256 = decide (fricV th hd ot1 oh1 > 1000 * ld) := by
  have bd := qTr_bd bk
  have ar : ∀ i : Nat, armV ld th hd (endV ot0 ot1 (i / 1)) (endV oh0 oh1 (i / 2)) = 1000 * ld + qTr th hd ot0 ot1 oh0 oh1 i := fun i => rfl
  have q0 : qTr th hd ot0 ot1 oh0 oh1 0 = fricV th hd ot0 oh0 := by simp [qTr, endV]
  have q3 : qTr th hd ot0 ot1 oh0 oh1 3 = fricV th hd ot1 oh1 := by simp [qTr, endV]
  constructor
  · rw [Bool.eq_iff_iff, allF_iff, decide_eq_true_eq]
    constructor
    · intro h
      have h1 := of_decide_eq_true (h 0 (by decide))
      rw [ar 0, q0] at h1
      omega
    · intro h i _
      refine decide_eq_true ?_
      rw [ar i]
      have := (bd i).1
      omega
  · rw [Bool.eq_iff_iff, anyF_iff, decide_eq_true_eq]
    constructor
    · rintro ⟨i, _, h⟩
      have h1 := of_decide_eq_true h
      rw [ar i] at h1
      have := (bd i).2
      omega
    · intro h
      refine ⟨3, by decide, decide_eq_true ?_⟩
      rw [ar 3, q3]
      omega
theorem looses_law {ld th hd ot0 ot1 oh0 oh1 st0 st1 sp0 sp1 yi0 yi1 f0 f1 : Int} (bk : BoltOk ld th hd ot0 ot1 oh0 oh1 st0 st1 sp0 sp1 yi0 yi1) (hf : 0 ≤ f0 ∧ f0 ≤ f1) :
    mnF (nTr ld th hd ot0 ot1 oh0 oh1 f0 f1) 256 = looseV ld f0 (fricV th hd ot0 oh0) ∧ mxF (nTr ld th hd ot0 ot1 oh0 oh1 f0 f1) 256 = looseV ld f1 (fricV th hd ot1 oh1) := by
  have bd := qTr_bd bk
  have fb : ∀ i : Nat, f0 ≤ endV f0 f1 (i / 32) ∧ endV f0 f1 (i / 32) ≤ f1 := fun i => endV_bd (by omega) (by omega)
  refine ⟨mnF_eq 0 (by decide) (fun i _ => loose_mono hf.1 (fb i).1 (bd i).1) (by simp [nTr, endV]), mxF_eq 35 (by decide) (fun i _ => ?_) (by simp [nTr, endV])⟩
  have h1 := fb i
  exact loose_mono (by omega) h1.2 (bd i).2

end Go.Proofs.Ytdhhaglaikdpbaa
