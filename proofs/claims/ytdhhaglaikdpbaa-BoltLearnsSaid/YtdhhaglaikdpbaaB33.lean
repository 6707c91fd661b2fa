/-
  Walks. Conditions: none.
-/
import Derived.Test.YtdhhaglaikdpbaaB32
set_option linter.unusedVariables false
set_option linter.unusedSimpArgs false
namespace Go.Proofs.Ytdhhaglaikdpbaa
open Go.RowKit Go.SL
set_option maxHeartbeats 1000000
set_option maxRecDepth 1000000
attribute [local go_sem] i64w
attribute [local go_sem] dwp_eqGuardE dwp_eqGuardN rval_eqGuardE rval_eqGuardN
theorem LeftOk (ro : Addr → Option Value) (ld th hd ot0 ot1 oh0 oh1 st0 st1 sp0 sp1 yi0 yi1 k t0 t1 a0 a1 s0 s1 l0 l1 : Int) (hv : BoltOk ld th hd ot0 ot1 oh0 oh1 st0 st1 sp0 sp1 yi0 yi1) (hw : wayB k t0 t1 a0 a1 s0 s1 = true) (hl : 0 ≤ l0 ∧ l0 ≤ l1 ∧ l1 ≤ 100000000) :
    Cr Try.prog 16 #[.agg #[.int .i64 ld, .int .i64 th, .int .i64 hd, .int .i64 ot0, .int .i64 ot1, .int .i64 oh0, .int .i64 oh1, .int .i64 st0, .int .i64 st1, .int .i64 sp0, .int .i64 sp1, .int .i64 yi0, .int .i64 yi1], .agg #[.int .i64 k, .int .i64 t0, .int .i64 t1, .int .i64 a0, .int .i64 a1, .int .i64 s0, .int .i64 s1], .agg #[.int .i64 l0, .int .i64 l1]] ro (.tuple #[.agg #[.int .i64 (max 0 (fLo ld th hd ot0 ot1 oh0 oh1 st0 st1 sp0 sp1 yi0 yi1 k t0 t1 a0 a1 s0 s1 - l1)), .int .i64 (max 0 (fHi ld th hd ot0 ot1 oh0 oh1 st0 st1 sp0 sp1 yi0 yi1 k t0 t1 a0 a1 s0 s1 - l0))], .int .i64 0]) := by
  have hz : openV ld th hd ot0 ot1 oh0 oh1 st0 st1 sp0 sp1 yi0 yi1 (!(wayB k t0 t1 a0 a1 s0 s1)) = 0 := by unfold openV; rw [boltB_iff.2 hv, hw]; rfl
  have e0 : leftE ld th hd ot0 ot1 oh0 oh1 st0 st1 sp0 sp1 yi0 yi1 k t0 t1 a0 a1 s0 s1 l0 l1 = 0 := by unfold leftE; rw [if_pos hz, if_pos (spB_iff.2 hl)]
  have := LeftB ro ld th hd ot0 ot1 oh0 oh1 st0 st1 sp0 sp1 yi0 yi1 k t0 t1 a0 a1 s0 s1 l0 l1
  rw [LA, LB, if_pos e0, if_pos e0, e0] at this
  exact this
theorem tr_lo (ld th hd ot0 ot1 oh0 oh1 st0 st1 sp0 sp1 yi0 yi1 k t0 t1 a0 a1 s0 s1 : Int) : trV ld th hd ot0 ot1 oh0 oh1 st0 st1 sp0 sp1 yi0 yi1 k t0 t1 a0 a1 s0 s1 255 255 0 0 0 0 0 = fLo ld th hd ot0 ot1 oh0 oh1 st0 st1 sp0 sp1 yi0 yi1 k t0 t1 a0 a1 s0 s1 := by
  unfold trV fLo; simp only [inV_0, inV_255]
theorem tr_hi (ld th hd ot0 ot1 oh0 oh1 st0 st1 sp0 sp1 yi0 yi1 k t0 t1 a0 a1 s0 s1 : Int) : trV ld th hd ot0 ot1 oh0 oh1 st0 st1 sp0 sp1 yi0 yi1 k t0 t1 a0 a1 s0 s1 0 0 255 255 255 255 255 = fHi ld th hd ot0 ot1 oh0 oh1 st0 st1 sp0 sp1 yi0 yi1 k t0 t1 a0 a1 s0 s1 := by
  unfold trV fHi; simp only [inV_0, inV_255]
theorem arm_mono {ld th hd x y x' y' : Int} (ht : 0 ≤ th) (hh : 0 ≤ hd) (hx : x ≤ x') (hy : y ≤ y') : armV ld th hd x y ≤ armV ld th hd x' y' := by
  have h1 : th * x ≤ th * x' := Int.mul_le_mul_of_nonneg_left hx ht
  have h2 : hd * y ≤ hd * y' := Int.mul_le_mul_of_nonneg_left hy hh
  unfold armV fricV; omega
theorem endT_mono {a a' t t' : Int} (h1 : 1 ≤ a') (h2 : a' ≤ a) (h3 : 0 ≤ t) (h4 : t ≤ t') : endT a t ≤ endT a' t' := by
  unfold endT
  refine Int.le_ediv_of_mul_le (by omega) ?_
  have h5 : 1000 * t / a * a ≤ 1000 * t := Int.ediv_mul_le _ (by omega)
  have h6 : 0 ≤ 1000 * t / a := Int.ediv_nonneg (by omega) (by omega)
  have h7 : 1000 * t / a * a' ≤ 1000 * t / a * a := Int.mul_le_mul_of_nonneg_left h2 h6
  omega
theorem mul_mono {a b c d : Int} (h1 : 0 ≤ a) (h2 : a ≤ b) (h3 : 0 ≤ c) (h4 : c ≤ d) : a * c ≤ b * d := by
  have h5 : a * c ≤ b * c := Int.mul_le_mul_of_nonneg_right h2 h3
  have h6 : b * c ≤ b * d := Int.mul_le_mul_of_nonneg_left h4 (by omega)
  omega
theorem endA_mono {a a' t t' s s' x x' : Int} (h1 : 1 ≤ a') (h2 : a' ≤ a) (h3 : 0 ≤ t) (h4 : t ≤ t') (h5 : 0 ≤ s) (h6 : s ≤ s') (h7 : 0 ≤ x) (h8 : x ≤ x') : endA a s x t ≤ endA a' s' x' t' := by
  have m1 := endT_mono h1 h2 h3 h4
  have m2 : s * x / 1000 ≤ s' * x' / 1000 := Int.ediv_le_ediv (by omega) (mul_mono h5 h6 h7 h8)
  unfold endT at m1
  unfold endA; omega
/-- Whatever is true, the force lies between both ends. -/
theorem tr_bd {ld th hd ot0 ot1 oh0 oh1 st0 st1 sp0 sp1 yi0 yi1 k t0 t1 a0 a1 s0 s1 r0 r1 r2 r3 r4 r5 r6 : Int} (hv : BoltOk ld th hd ot0 ot1 oh0 oh1 st0 st1 sp0 sp1 yi0 yi1) (hw : wayB k t0 t1 a0 a1 s0 s1 = true) (h0 : 0 ≤ r0 ∧ r0 < 256) (h1 : 0 ≤ r1 ∧ r1 < 256) (h2 : 0 ≤ r2 ∧ r2 < 256) (h3 : 0 ≤ r3 ∧ r3 < 256) (h4 : 0 ≤ r4 ∧ r4 < 256) (h5 : 0 ≤ r5 ∧ r5 < 256) (h6 : 0 ≤ r6 ∧ r6 < 256) :
    fLo ld th hd ot0 ot1 oh0 oh1 st0 st1 sp0 sp1 yi0 yi1 k t0 t1 a0 a1 s0 s1 ≤ trV ld th hd ot0 ot1 oh0 oh1 st0 st1 sp0 sp1 yi0 yi1 k t0 t1 a0 a1 s0 s1 r0 r1 r2 r3 r4 r5 r6 ∧ trV ld th hd ot0 ot1 oh0 oh1 st0 st1 sp0 sp1 yi0 yi1 k t0 t1 a0 a1 s0 s1 r0 r1 r2 r3 r4 r5 r6 ≤ fHi ld th hd ot0 ot1 oh0 oh1 st0 st1 sp0 sp1 yi0 yi1 k t0 t1 a0 a1 s0 s1 := by
  have ho := hv.ho
  have hp := hv.hp
  have hs := hv.hs
  have hr := hv.hr
  have i0 := inV_bd (lo := ot0) (hi := ot1) (by omega) h0
  have i1 := inV_bd (lo := oh0) (hi := oh1) (by omega) h1
  have i3 := inV_bd (lo := st0) (hi := st1) (by omega) h3
  have i5 := inV_bd (lo := sp0) (hi := sp1) (by omega) h5
  have m0 := arm_mono (ld := ld) hv.ht.1 hv.hh.1 i0.1 i1.1
  have m1 := arm_mono (ld := ld) hv.ht.1 hv.hh.1 i0.2 i1.2
  have b0 := arm_bd ld th hd ot0 oh0 hv.hl hv.ht hv.hh (by omega) (by omega)
  have b1 := arm_bd ld th hd (inV ot0 ot1 r0) (inV oh0 oh1 r1) hv.hl hv.ht hv.hh (by omega) (by omega)
  unfold trV fLo fHi
  rcases way_cases hw with ⟨rfl, q1, rfl, rfl, rfl, rfl⟩ | ⟨rfl, q1, q2, rfl, rfl⟩ | ⟨rfl, q1, rfl, rfl, rfl, rfl⟩
  · have i2 := inV_bd (lo := t0) (hi := t1) (by omega) h2
    simp only [if_true]
    exact ⟨endT_mono (by omega) m1 (by omega) i2.1, endT_mono (by omega) m0 (by omega) i2.2⟩
  · have i2 := inV_bd (lo := t0) (hi := t1) (by omega) h2
    have i4 := inV_bd (lo := a0) (hi := a1) (by omega) h4
    simp only [show ¬ ((2 : Int) = 1) by decide, if_false, if_true]
    exact ⟨endA_mono (by omega) (by assumption) (by omega) i2.1 (by omega) i3.1 (by omega) i4.1, endA_mono (by omega) (by assumption) (by omega) i2.2 (by omega) i3.2 (by omega) i4.2⟩
  · have i6 := inV_bd (lo := s0) (hi := s1) (by omega) h6
    simp only [show ¬ ((3 : Int) = 1) by decide, show ¬ ((3 : Int) = 2) by decide, if_false]
    exact ⟨mul_mono (by omega) i5.1 (by omega) i6.1, mul_mono (by omega) i5.2 (by omega) i6.2⟩

end Go.Proofs.Ytdhhaglaikdpbaa
