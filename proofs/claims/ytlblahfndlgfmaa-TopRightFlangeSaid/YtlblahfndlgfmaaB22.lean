/-
  Walks. Conditions: none.
-/
import Derived.Test.YtlblahfndlgfmaaB21
set_option linter.unusedVariables false
set_option linter.unusedSimpArgs false
namespace Go.Proofs.Ytlblahfndlgfmaa
open Go.RowKit Go.SL
set_option maxHeartbeats 1000000
set_option maxRecDepth 1000000
attribute [local go_sem] i64w
attribute [local go_sem] dwp_eqGuardE dwp_eqGuardN rval_eqGuardE rval_eqGuardN
/-- The least and the greatest force. -/
def fLo (ld th hd ot0 ot1 oh0 oh1 st0 st1 sp0 sp1 yi0 yi1 k t0 t1 a0 a1 s0 s1 : Int) : Int := if k = 1 then endT (armV ld th hd ot1 oh1) t0 else if k = 2 then endA (armV ld th hd ot1 oh1) st0 a0 t0 else endS sp0 s0
def fHi (ld th hd ot0 ot1 oh0 oh1 st0 st1 sp0 sp1 yi0 yi1 k t0 t1 a0 a1 s0 s1 : Int) : Int := if k = 1 then endT (armV ld th hd ot0 oh0) t1 else if k = 2 then endA (armV ld th hd ot0 oh0) st1 a1 t1 else endS sp1 s1
theorem way_cases {k t0 t1 a0 a1 s0 s1 : Int} (hw : wayB k t0 t1 a0 a1 s0 s1 = true) :
    (k = 1 ∧ (0 ≤ t0 ∧ t0 ≤ t1 ∧ t1 ≤ 10000000000000) ∧ a0 = 0 ∧ a1 = 0 ∧ s0 = 0 ∧ s1 = 0) ∨
    (k = 2 ∧ (0 ≤ t0 ∧ t0 ≤ t1 ∧ t1 ≤ 10000000000000) ∧ (0 ≤ a0 ∧ a0 ≤ a1 ∧ a1 ≤ 100000) ∧ s0 = 0 ∧ s1 = 0) ∨
    (k = 3 ∧ (0 ≤ s0 ∧ s0 ≤ s1 ∧ s1 ≤ 100000) ∧ t0 = 0 ∧ t1 = 0 ∧ a0 = 0 ∧ a1 = 0) := by
  unfold wayB noB at hw
  simp only [beq_iff_eq] at hw
  split at hw
  · simp_all [spB_iff]
  · split at hw
    · simp_all [spB_iff]
    · split at hw
      · simp_all [spB_iff]
      · cases hw
theorem forceG (ro : Addr → Option Value) (ld th hd ot0 ot1 oh0 oh1 st0 st1 sp0 sp1 yi0 yi1 k t0 t1 a0 a1 s0 s1 : Int) (hv : BoltOk ld th hd ot0 ot1 oh0 oh1 st0 st1 sp0 sp1 yi0 yi1) (hw : wayB k t0 t1 a0 a1 s0 s1 = true) :
    Cr Try.prog 20 #[.agg #[.int .i64 ld, .int .i64 th, .int .i64 hd, .int .i64 ot0, .int .i64 ot1, .int .i64 oh0, .int .i64 oh1, .int .i64 st0, .int .i64 st1, .int .i64 sp0, .int .i64 sp1, .int .i64 yi0, .int .i64 yi1], .agg #[.int .i64 k, .int .i64 t0, .int .i64 t1, .int .i64 a0, .int .i64 a1, .int .i64 s0, .int .i64 s1]] ro (.agg #[.int .i64 (fLo ld th hd ot0 ot1 oh0 oh1 st0 st1 sp0 sp1 yi0 yi1 k t0 t1 a0 a1 s0 s1), .int .i64 (fHi ld th hd ot0 ot1 oh0 oh1 st0 st1 sp0 sp1 yi0 yi1 k t0 t1 a0 a1 s0 s1)]) := by
  rcases way_cases hw with ⟨rfl, h1, rfl, rfl, rfl, rfl⟩ | ⟨rfl, h1, h2, rfl, rfl⟩ | ⟨rfl, h1, rfl, rfl, rfl, rfl⟩
  · exact forceT ro ld th hd ot0 ot1 oh0 oh1 st0 st1 sp0 sp1 yi0 yi1 _ _ hv h1
  · exact forceA ro ld th hd ot0 ot1 oh0 oh1 st0 st1 sp0 sp1 yi0 yi1 _ _ _ _ hv h1 h2
  · exact forceS ro ld th hd ot0 ot1 oh0 oh1 st0 st1 sp0 sp1 yi0 yi1 _ _ hv h1
theorem force_bd {ld th hd ot0 ot1 oh0 oh1 st0 st1 sp0 sp1 yi0 yi1 k t0 t1 a0 a1 s0 s1 : Int} (hv : BoltOk ld th hd ot0 ot1 oh0 oh1 st0 st1 sp0 sp1 yi0 yi1) (hw : wayB k t0 t1 a0 a1 s0 s1 = true) : 0 ≤ fLo ld th hd ot0 ot1 oh0 oh1 st0 st1 sp0 sp1 yi0 yi1 k t0 t1 a0 a1 s0 s1 ∧ fLo ld th hd ot0 ot1 oh0 oh1 st0 st1 sp0 sp1 yi0 yi1 k t0 t1 a0 a1 s0 s1 ≤ 20000000000000 ∧ 0 ≤ fHi ld th hd ot0 ot1 oh0 oh1 st0 st1 sp0 sp1 yi0 yi1 k t0 t1 a0 a1 s0 s1 ∧ fHi ld th hd ot0 ot1 oh0 oh1 st0 st1 sp0 sp1 yi0 yi1 k t0 t1 a0 a1 s0 s1 ≤ 20000000000000 := by
  have b0 := arm_bd ld th hd ot0 oh0 hv.hl hv.ht hv.hh (by have := hv.ho; omega) (by have := hv.hp; omega)
  have b1 := arm_bd ld th hd ot1 oh1 hv.hl hv.ht hv.hh (by have := hv.ho; omega) (by have := hv.hp; omega)
  have hs := hv.hs
  have hr := hv.hr
  unfold fLo fHi
  rcases way_cases hw with ⟨rfl, h1, rfl, rfl, rfl, rfl⟩ | ⟨rfl, h1, h2, rfl, rfl⟩ | ⟨rfl, h1, rfl, rfl, rfl, rfl⟩
  · have c0 := endT_bd (armV ld th hd ot1 oh1) t0 (by omega) (by omega)
    have c1 := endT_bd (armV ld th hd ot0 oh0) t1 (by omega) (by omega)
    simp only [if_true]
    omega
  · have c0 := endT_bd (armV ld th hd ot1 oh1) t0 (by omega) (by omega)
    have c1 := endT_bd (armV ld th hd ot0 oh0) t1 (by omega) (by omega)
    have m1 := mul_bd (a := st0) (b := a0) (A := 100000000) (B := 100000) (by omega) (by omega) (by omega) (by omega)
    have m2 : 0 ≤ st0 * a0 := Int.mul_nonneg (by omega) (by omega)
    have m3 := mul_bd (a := st1) (b := a1) (A := 100000000) (B := 100000) (by omega) (by omega) (by omega) (by omega)
    have m4 : 0 ≤ st1 * a1 := Int.mul_nonneg (by omega) (by omega)
    unfold endT at c0 c1
    simp only [show ¬ ((2 : Int) = 1) by decide, if_false, if_true, endA]
    omega
  · have m1 := mul_bd (a := sp0) (b := s0) (A := 100000) (B := 100000) (by omega) (by omega) (by omega) (by omega)
    have m2 : 0 ≤ sp0 * s0 := Int.mul_nonneg (by omega) (by omega)
    have m3 := mul_bd (a := sp1) (b := s1) (A := 100000) (B := 100000) (by omega) (by omega) (by omega) (by omega)
    have m4 : 0 ≤ sp1 * s1 := Int.mul_nonneg (by omega) (by omega)
    simp only [show ¬ ((3 : Int) = 1) by decide, show ¬ ((3 : Int) = 2) by decide, if_false, endS]
    omega
theorem openV_ok {ld th hd ot0 ot1 oh0 oh1 st0 st1 sp0 sp1 yi0 yi1 k t0 t1 a0 a1 s0 s1 : Int} (h : openV ld th hd ot0 ot1 oh0 oh1 st0 st1 sp0 sp1 yi0 yi1 (!(wayB k t0 t1 a0 a1 s0 s1)) = 0) : BoltOk ld th hd ot0 ot1 oh0 oh1 st0 st1 sp0 sp1 yi0 yi1 ∧ wayB k t0 t1 a0 a1 s0 s1 = true := by
  unfold openV at h
  split at h
  · rename_i hb
    split at h
    · cases h
    · rename_i hw
      exact ⟨boltB_iff.1 hb, by simpa using hw⟩
  · cases h
theorem openV_eq {ld th hd ot0 ot1 oh0 oh1 st0 st1 sp0 sp1 yi0 yi1 : Int} {b : Bool} (h : openV ld th hd ot0 ot1 oh0 oh1 st0 st1 sp0 sp1 yi0 yi1 b ≠ 0) : openV ld th hd ot0 ot1 oh0 oh1 st0 st1 sp0 sp1 yi0 yi1 b = 2 := by
  unfold openV at h ⊢
  repeat' split at h
  all_goals simp_all
/-- What Force returns. -/
def FA (ld th hd ot0 ot1 oh0 oh1 st0 st1 sp0 sp1 yi0 yi1 k t0 t1 a0 a1 s0 s1 : Int) : Int := if openV ld th hd ot0 ot1 oh0 oh1 st0 st1 sp0 sp1 yi0 yi1 (!(wayB k t0 t1 a0 a1 s0 s1)) = 0 then fLo ld th hd ot0 ot1 oh0 oh1 st0 st1 sp0 sp1 yi0 yi1 k t0 t1 a0 a1 s0 s1 else 0
def FB (ld th hd ot0 ot1 oh0 oh1 st0 st1 sp0 sp1 yi0 yi1 k t0 t1 a0 a1 s0 s1 : Int) : Int := if openV ld th hd ot0 ot1 oh0 oh1 st0 st1 sp0 sp1 yi0 yi1 (!(wayB k t0 t1 a0 a1 s0 s1)) = 0 then fHi ld th hd ot0 ot1 oh0 oh1 st0 st1 sp0 sp1 yi0 yi1 k t0 t1 a0 a1 s0 s1 else 0
theorem ForceB (ro : Addr → Option Value) (ld th hd ot0 ot1 oh0 oh1 st0 st1 sp0 sp1 yi0 yi1 k t0 t1 a0 a1 s0 s1 : Int) :
    Cr Try.prog 27 #[.agg #[.int .i64 ld, .int .i64 th, .int .i64 hd, .int .i64 ot0, .int .i64 ot1, .int .i64 oh0, .int .i64 oh1, .int .i64 st0, .int .i64 st1, .int .i64 sp0, .int .i64 sp1, .int .i64 yi0, .int .i64 yi1], .agg #[.int .i64 k, .int .i64 t0, .int .i64 t1, .int .i64 a0, .int .i64 a1, .int .i64 s0, .int .i64 s1]] ro (.tuple #[.agg #[.int .i64 (FA ld th hd ot0 ot1 oh0 oh1 st0 st1 sp0 sp1 yi0 yi1 k t0 t1 a0 a1 s0 s1), .int .i64 (FB ld th hd ot0 ot1 oh0 oh1 st0 st1 sp0 sp1 yi0 yi1 k t0 t1 a0 a1 s0 s1)], .int .i64 (openV ld th hd ot0 ot1 oh0 oh1 st0 st1 sp0 sp1 yi0 yi1 (!(wayB k t0 t1 a0 a1 s0 s1)))]) := by
  by_cases hz : openV ld th hd ot0 ot1 oh0 oh1 st0 st1 sp0 sp1 yi0 yi1 (!(wayB k t0 t1 a0 a1 s0 s1)) = 0
  · have hv := Hold.mk (openV_ok hz).1
    have hw := Hold.mk (openV_ok hz).2
    have e1 : FA ld th hd ot0 ot1 oh0 oh1 st0 st1 sp0 sp1 yi0 yi1 k t0 t1 a0 a1 s0 s1 = fLo ld th hd ot0 ot1 oh0 oh1 st0 st1 sp0 sp1 yi0 yi1 k t0 t1 a0 a1 s0 s1 := if_pos hz
    have e2 : FB ld th hd ot0 ot1 oh0 oh1 st0 st1 sp0 sp1 yi0 yi1 k t0 t1 a0 a1 s0 s1 = fHi ld th hd ot0 ot1 oh0 oh1 st0 st1 sp0 sp1 yi0 yi1 k t0 t1 a0 a1 s0 s1 := if_pos hz
    rw [e1, e2, hz]
    (refine Cr.of Try.func27 rfl rfl (fun F hF => ?_); simp only [Try.ntmps27, Try.results27, List.size_toArray, List.length_cons, List.length_nil, Nat.reduceAdd, Nat.reduceSub, Array.replicate_succ, Array.replicate_zero, List.push_toArray, List.append_toArray, List.nil_append, List.cons_append]; simp -implicitDefEqProofs (maxSteps := 1000000) only [go_sem, seval])
    subst hF
    try simp -implicitDefEqProofs (maxSteps := 1000000) only [go_sem, seval, *]
    repeat' (first | ((first | ((with_reducible refine NewK.intro fun g hg hn => ?_) <;> try simp only [own_none_iff] at hn) | ((with_reducible refine GuardB.split (fun hc => ?_) (fun hc => ?_)) <;> (have hc2 := hc; try simp only [beq_eq_false_iff_ne, beq_iff_eq, ne_eq, bne_iff_ne, bne_eq_false_iff_eq, decide_eq_true_eq, decide_eq_false_iff_not, Bool.not_true, Bool.not_false, Int.not_le, Int.not_lt] at hc2)) | ((with_reducible refine CondK.split (fun hc => ?_) (fun hc => ?_)) <;> (have hc2 := hc; try simp only [beq_eq_false_iff_ne, beq_iff_eq, ne_eq, bne_iff_ne, bne_eq_false_iff_eq, decide_eq_true_eq, decide_eq_false_iff_not, Bool.not_true, Bool.not_false, Int.not_le, Int.not_lt] at hc2)) | ((with_reducible refine PickK.split (fun hc => ?_) (fun hc => ?_)) <;> (have hc2 := hc; try simp only [beq_eq_false_iff_ne, beq_iff_eq, ne_eq, bne_iff_ne, bne_eq_false_iff_eq, decide_eq_true_eq, decide_eq_false_iff_not, Bool.not_true, Bool.not_false, Int.not_le, Int.not_lt] at hc2)) | (with_reducible refine dop_buildSlice ?_) | (with_reducible refine dop_build ?_) | ((with_reducible refine Cr.call (f := 18) (open1B _ _ _ _ _ _ _ _ _ _ _ _ _ _ _ _ k t0 t1 a0 a1 s0 s1 (by simp -implicitDefEqProofs only [go_sem, seval, *])) ?_)) | (with_reducible refine CallV.of (f := 18) (open1B _ _ _ _ _ _ _ _ _ _ _ _ _ _ _ _ k t0 t1 a0 a1 s0 s1 (by simp -implicitDefEqProofs only [go_sem, seval, *])) ni18 ?_) | ((with_reducible refine Cr.call (f := 20) (forceG _ _ _ _ _ _ _ _ _ _ _ _ _ _ _ _ _ _ _ _ _ hv.out hw.out) ?_)) | (with_reducible refine CallV.of (f := 20) (forceG _ _ _ _ _ _ _ _ _ _ _ _ _ _ _ _ _ _ _ _ _ hv.out hw.out) ni20 ?_) | ((with_reducible refine GuardD.split (fun hc => ?_) (fun hc => ?_)) <;> (have hc2 := hc; try simp only [beq_eq_false_iff_ne, beq_iff_eq, ne_eq, bne_iff_ne, bne_eq_false_iff_eq, decide_eq_true_eq, decide_eq_false_iff_not, Bool.not_true, Bool.not_false, Int.not_le, Int.not_lt] at hc2)) | (with_reducible refine stp_build ?_) | (with_reducible refine stp_buildSlice ?_) | (with_reducible refine stp_store ?_) | (with_reducible refine stp_ns ?_) | (with_reducible refine NsB.intro (fun h' ho K' hk => by simp -implicitDefEqProofs (maxSteps := 1000000) only [go_sem, seval, *] <;> exact hk) ?_) | (with_reducible refine WrB.intro _ (by simp -implicitDefEqProofs (maxSteps := 1000000) only [go_sem, seval, *]) (fun h' ho K' hk => by simp -implicitDefEqProofs (maxSteps := 1000000) only [go_sem, seval, *]; exact hk) (fun h' ho K' hk => by simp -implicitDefEqProofs (maxSteps := 1000000) only [go_sem, seval, *] at hk; exact hk) (fun h' ho hk => by simp -implicitDefEqProofs (maxSteps := 1000000) only [go_sem, seval, *] at hk <;> with_unfolding_all exact False.elim hk) ?_) | (with_reducible refine WrB.intro _ (by simp -implicitDefEqProofs (maxSteps := 1000000) only [go_sem, seval, *]) (fun h' ho K' hk => by simp -implicitDefEqProofs (maxSteps := 1000000) only [go_sem, seval, *]; exact hk) ?_) | ((with_reducible refine DDraw.auto mo ?_ ?_); kernel_rfl)) <;> simp -implicitDefEqProofs (maxSteps := 1000000) only [go_sem, seval, *]) | (with_reducible refine bi_same ?_))
  · have e1 : FA ld th hd ot0 ot1 oh0 oh1 st0 st1 sp0 sp1 yi0 yi1 k t0 t1 a0 a1 s0 s1 = 0 := if_neg hz
    have e2 : FB ld th hd ot0 ot1 oh0 oh1 st0 st1 sp0 sp1 yi0 yi1 k t0 t1 a0 a1 s0 s1 = 0 := if_neg hz
    have e3 := openV_eq hz
    rw [e1, e2]
    (refine Cr.of Try.func27 rfl rfl (fun F hF => ?_); simp only [Try.ntmps27, Try.results27, List.size_toArray, List.length_cons, List.length_nil, Nat.reduceAdd, Nat.reduceSub, Array.replicate_succ, Array.replicate_zero, List.push_toArray, List.append_toArray, List.nil_append, List.cons_append]; simp -implicitDefEqProofs (maxSteps := 1000000) only [go_sem, seval])
    subst hF
    try simp -implicitDefEqProofs (maxSteps := 1000000) only [go_sem, seval, *]
    repeat' (first | ((first | ((with_reducible refine NewK.intro fun g hg hn => ?_) <;> try simp only [own_none_iff] at hn) | ((with_reducible refine GuardB.split (fun hc => ?_) (fun hc => ?_)) <;> (have hc2 := hc; try simp only [beq_eq_false_iff_ne, beq_iff_eq, ne_eq, bne_iff_ne, bne_eq_false_iff_eq, decide_eq_true_eq, decide_eq_false_iff_not, Bool.not_true, Bool.not_false, Int.not_le, Int.not_lt] at hc2)) | ((with_reducible refine CondK.split (fun hc => ?_) (fun hc => ?_)) <;> (have hc2 := hc; try simp only [beq_eq_false_iff_ne, beq_iff_eq, ne_eq, bne_iff_ne, bne_eq_false_iff_eq, decide_eq_true_eq, decide_eq_false_iff_not, Bool.not_true, Bool.not_false, Int.not_le, Int.not_lt] at hc2)) | ((with_reducible refine PickK.split (fun hc => ?_) (fun hc => ?_)) <;> (have hc2 := hc; try simp only [beq_eq_false_iff_ne, beq_iff_eq, ne_eq, bne_iff_ne, bne_eq_false_iff_eq, decide_eq_true_eq, decide_eq_false_iff_not, Bool.not_true, Bool.not_false, Int.not_le, Int.not_lt] at hc2)) | (with_reducible refine dop_buildSlice ?_) | (with_reducible refine dop_build ?_) | ((with_reducible refine Cr.call (f := 18) (open1B _ _ _ _ _ _ _ _ _ _ _ _ _ _ _ _ k t0 t1 a0 a1 s0 s1 (by simp -implicitDefEqProofs only [go_sem, seval, *])) ?_)) | (with_reducible refine CallV.of (f := 18) (open1B _ _ _ _ _ _ _ _ _ _ _ _ _ _ _ _ k t0 t1 a0 a1 s0 s1 (by simp -implicitDefEqProofs only [go_sem, seval, *])) ni18 ?_) | ((with_reducible refine GuardD.split (fun hc => ?_) (fun hc => ?_)) <;> (have hc2 := hc; try simp only [beq_eq_false_iff_ne, beq_iff_eq, ne_eq, bne_iff_ne, bne_eq_false_iff_eq, decide_eq_true_eq, decide_eq_false_iff_not, Bool.not_true, Bool.not_false, Int.not_le, Int.not_lt] at hc2)) | (with_reducible refine stp_build ?_) | (with_reducible refine stp_buildSlice ?_) | (with_reducible refine stp_store ?_) | (with_reducible refine stp_ns ?_) | (with_reducible refine NsB.intro (fun h' ho K' hk => by simp -implicitDefEqProofs (maxSteps := 1000000) only [go_sem, seval, *] <;> exact hk) ?_) | (with_reducible refine WrB.intro _ (by simp -implicitDefEqProofs (maxSteps := 1000000) only [go_sem, seval, *]) (fun h' ho K' hk => by simp -implicitDefEqProofs (maxSteps := 1000000) only [go_sem, seval, *]; exact hk) (fun h' ho K' hk => by simp -implicitDefEqProofs (maxSteps := 1000000) only [go_sem, seval, *] at hk; exact hk) (fun h' ho hk => by simp -implicitDefEqProofs (maxSteps := 1000000) only [go_sem, seval, *] at hk <;> with_unfolding_all exact False.elim hk) ?_) | (with_reducible refine WrB.intro _ (by simp -implicitDefEqProofs (maxSteps := 1000000) only [go_sem, seval, *]) (fun h' ho K' hk => by simp -implicitDefEqProofs (maxSteps := 1000000) only [go_sem, seval, *]; exact hk) ?_) | ((with_reducible refine DDraw.auto mo ?_ ?_); kernel_rfl)) <;> simp -implicitDefEqProofs (maxSteps := 1000000) only [go_sem, seval, *]) | (with_reducible refine bi_same ?_))

end Go.Proofs.Ytlblahfndlgfmaa
