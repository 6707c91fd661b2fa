/-
  Walks. Conditions: none.
-/
import Derived.Test.YtdhdfdaclbfkiaaW18
set_option linter.unusedVariables false
set_option linter.unusedSimpArgs false
namespace Go.Proofs.Ytdhdfdaclbfkiaa
open Go.RowKit Go.SL
set_option maxHeartbeats 1000000
set_option maxRecDepth 1000000
attribute [local go_sem] i64w
attribute [local go_sem] dwp_eqGuardE dwp_eqGuardN rval_eqGuardE rval_eqGuardN
theorem kind_ok (ro : Addr → Option Value) (q0 q1 q2 p0 p1 p2 p3 r0 r1 lead : Int) (hq0 : 0 ≤ q0 ∧ q0 < 256) (hq1 : 0 ≤ q1 ∧ q1 < 256) (hq2 : 0 ≤ q2 ∧ q2 < 256) (hp0 : 0 ≤ p0 ∧ p0 < 256) (hp1 : 0 ≤ p1 ∧ p1 < 256) (hp2 : 0 ≤ p2 ∧ p2 < 256) (hp3 : 0 ≤ p3 ∧ p3 < 256) (hr0 : 0 ≤ r0 ∧ r0 < 256) (hr1 : 0 ≤ r1 ∧ r1 < 256) :
    Cr Try.prog 10 #[.agg #[.int .u8 q0, .int .u8 q1, .int .u8 q2, .int .u8 p0, .int .u8 p1, .int .u8 p2, .int .u8 p3, .int .u8 r0, .int .u8 r1], .int .i64 lead] ro (.agg #[.int .i64 lead, .int .i64 (20 * q1), .int .i64 (30 * q2), .int .i64 p0, .int .i64 (p0 + p1 % 60), .int .i64 p2, .int .i64 (p2 + p3 % 60), .int .i64 1000, .int .i64 1000, .int .i64 (1 + r0), .int .i64 (1 + r0 + r1 % 20), .int .i64 20000, .int .i64 30000]) := by
  have wq0 : IntKind.i64.wrap q0 = q0 := IntWalk.i64_in _ (by omega)
  have wq1 : IntKind.i64.wrap q1 = q1 := IntWalk.i64_in _ (by omega)
  have wq2 : IntKind.i64.wrap q2 = q2 := IntWalk.i64_in _ (by omega)
  have wp0 : IntKind.i64.wrap p0 = p0 := IntWalk.i64_in _ (by omega)
  have wp1 : IntKind.i64.wrap p1 = p1 := IntWalk.i64_in _ (by omega)
  have wp2 : IntKind.i64.wrap p2 = p2 := IntWalk.i64_in _ (by omega)
  have wp3 : IntKind.i64.wrap p3 = p3 := IntWalk.i64_in _ (by omega)
  have wr0 : IntKind.i64.wrap r0 = r0 := IntWalk.i64_in _ (by omega)
  have wr1 : IntKind.i64.wrap r1 = r1 := IntWalk.i64_in _ (by omega)
  have t1 : p1.tmod 60 = p1 % 60 := Int.tmod_eq_emod_of_nonneg hp1.1
  have t2 : p3.tmod 60 = p3 % 60 := Int.tmod_eq_emod_of_nonneg hp3.1
  have t3 : r1.tmod 20 = r1 % 20 := Int.tmod_eq_emod_of_nonneg hr1.1
  have e1 : IntKind.i64.wrap (20 * q1) = 20 * q1 := IntWalk.i64_in _ (by omega)
  have e2 : IntKind.i64.wrap (30 * q2) = 30 * q2 := IntWalk.i64_in _ (by omega)
  have e3 : IntKind.i64.wrap (p0 + p1 % 60) = p0 + p1 % 60 := IntWalk.i64_in _ (by omega)
  have e4 : IntKind.i64.wrap (p2 + p3 % 60) = p2 + p3 % 60 := IntWalk.i64_in _ (by omega)
  have e5 : IntKind.i64.wrap (1 + r0) = 1 + r0 := IntWalk.i64_in _ (by omega)
  have e6 : IntKind.i64.wrap (1 + r0 + r1 % 20) = 1 + r0 + r1 % 20 := IntWalk.i64_in _ (by omega)
  clear hq0 hq1 hq2 hp0 hp1 hp2 hp3 hr0 hr1
  (refine Cr.of Try.func10 rfl rfl (fun F hF => ?_); simp only [Try.ntmps10, Try.results10, List.size_toArray, List.length_cons, List.length_nil, Nat.reduceAdd, Nat.reduceSub, Array.replicate_succ, Array.replicate_zero, List.push_toArray, List.append_toArray, List.nil_append, List.cons_append]; simp -implicitDefEqProofs (maxSteps := 1000000) only [go_sem, seval])
  subst hF
  try simp -implicitDefEqProofs (maxSteps := 1000000) only [go_sem, seval, *]
  repeat' (first | ((first | ((with_reducible refine NewK.intro fun g hg hn => ?_) <;> try simp only [own_none_iff] at hn) | ((with_reducible refine GuardB.split (fun hc => ?_) (fun hc => ?_)) <;> (have hc2 := hc; try simp only [beq_eq_false_iff_ne, beq_iff_eq, ne_eq, bne_iff_ne, bne_eq_false_iff_eq, decide_eq_true_eq, decide_eq_false_iff_not, Bool.not_true, Bool.not_false, Int.not_le, Int.not_lt] at hc2)) | ((with_reducible refine CondK.split (fun hc => ?_) (fun hc => ?_)) <;> (have hc2 := hc; try simp only [beq_eq_false_iff_ne, beq_iff_eq, ne_eq, bne_iff_ne, bne_eq_false_iff_eq, decide_eq_true_eq, decide_eq_false_iff_not, Bool.not_true, Bool.not_false, Int.not_le, Int.not_lt] at hc2)) | ((with_reducible refine PickK.split (fun hc => ?_) (fun hc => ?_)) <;> (have hc2 := hc; try simp only [beq_eq_false_iff_ne, beq_iff_eq, ne_eq, bne_iff_ne, bne_eq_false_iff_eq, decide_eq_true_eq, decide_eq_false_iff_not, Bool.not_true, Bool.not_false, Int.not_le, Int.not_lt] at hc2)) | (with_reducible refine dop_buildSlice ?_) | (with_reducible refine dop_build ?_) | ((with_reducible refine Cr.call (f := 11) (armSpan_ok _ _ _) ?_)) | (with_reducible refine CallV.of (f := 11) (armSpan_ok _ _ _) ni11 ?_) | ((with_reducible refine DDraw.told (id := 1) [] [.tmp 4] mo ?_ ?_); kernel_rfl) | ((with_reducible refine GuardD.split (fun hc => ?_) (fun hc => ?_)) <;> (have hc2 := hc; try simp only [beq_eq_false_iff_ne, beq_iff_eq, ne_eq, bne_iff_ne, bne_eq_false_iff_eq, decide_eq_true_eq, decide_eq_false_iff_not, Bool.not_true, Bool.not_false, Int.not_le, Int.not_lt] at hc2)) | (with_reducible refine stp_build ?_) | (with_reducible refine stp_buildSlice ?_) | (with_reducible refine stp_store ?_) | (with_reducible refine stp_ns ?_) | (with_reducible refine NsB.intro (fun h' ho K' hk => by simp -implicitDefEqProofs (maxSteps := 1000000) only [go_sem, seval, *] <;> exact hk) ?_) | (with_reducible refine WrB.intro _ (by simp -implicitDefEqProofs (maxSteps := 1000000) only [go_sem, seval, *]) (fun h' ho K' hk => by simp -implicitDefEqProofs (maxSteps := 1000000) only [go_sem, seval, *]; exact hk) ?_) | ((with_reducible refine DDraw.auto mo ?_ ?_); kernel_rfl)) <;> simp -implicitDefEqProofs (maxSteps := 1000000) only [go_sem, seval, *]) | (with_reducible refine bi_same ?_))
theorem kind_fit {q0 q1 q2 p0 p1 p2 p3 r0 r1 lead : Int} (hq0 : 0 ≤ q0 ∧ q0 < 256) (hq1 : 0 ≤ q1 ∧ q1 < 256) (hq2 : 0 ≤ q2 ∧ q2 < 256) (hp0 : 0 ≤ p0 ∧ p0 < 256) (hp1 : 0 ≤ p1 ∧ p1 < 256) (hp2 : 0 ≤ p2 ∧ p2 < 256) (hp3 : 0 ≤ p3 ∧ p3 < 256) (hr0 : 0 ≤ r0 ∧ r0 < 256) (hr1 : 0 ≤ r1 ∧ r1 < 256) (hl : 1 ≤ lead ∧ lead ≤ 100000) : BoltOk lead (20 * q1) (30 * q2) p0 (p0 + p1 % 60) p2 (p2 + p3 % 60) 1000 1000 (1 + r0) (1 + r0 + r1 % 20) 20000 30000 :=
  ⟨hl, by omega, by omega, by omega, by omega, by omega, by omega, by omega⟩
theorem armBolt_ok (ro : Addr → Option Value) : Cr Try.prog 16 #[] ro (.bool true) := by
  have f1 : Hold (BoltOk 2000 5000 7000 100 160 120 150 50000 60000 90 110 30000 33000) := ⟨⟨by decide, by decide, by decide, by decide, by decide, by decide, by decide, by decide⟩⟩
  have r1 : endT (armV 2000 5000 7000 160 150) 66800000 = 17350 := by decide
  have r2 : endT (armV 2000 5000 7000 100 120) 66800000 = 20000 := by decide
  have r3 : rA (leastV 2000 5000 7000 160 150 17000) (mostV 2000 5000 7000 100 120 21000 30000) (-500000) 500000 = 65950000 := by decide
  have r4 : rB (leastV 2000 5000 7000 160 150 17000) (mostV 2000 5000 7000 100 120 21000 30000) (-500000) 500000 = 69643339 := by decide
  have r5 : rE (leastV 2000 5000 7000 160 150 17000) (mostV 2000 5000 7000 100 120 21000 30000) (-500000) 500000 = 0 := by decide
  (refine Cr.of Try.func16 rfl rfl (fun F hF => ?_); simp only [Try.ntmps16, Try.results16, List.size_toArray, List.length_cons, List.length_nil, Nat.reduceAdd, Nat.reduceSub, Array.replicate_succ, Array.replicate_zero, List.push_toArray, List.append_toArray, List.nil_append, List.cons_append]; simp -implicitDefEqProofs (maxSteps := 1000000) only [go_sem, seval])
  subst hF
  repeat' (first | ((first | ((with_reducible refine NewK.intro fun g hg hn => ?_) <;> try simp only [own_none_iff] at hn) | ((with_reducible refine GuardB.split (fun hc => ?_) (fun hc => ?_)) <;> (have hc2 := hc; try simp only [beq_eq_false_iff_ne, beq_iff_eq, ne_eq, bne_iff_ne, bne_eq_false_iff_eq, decide_eq_true_eq, decide_eq_false_iff_not, Bool.not_true, Bool.not_false, Int.not_le, Int.not_lt] at hc2)) | ((with_reducible refine CondK.split (fun hc => ?_) (fun hc => ?_)) <;> (have hc2 := hc; try simp only [beq_eq_false_iff_ne, beq_iff_eq, ne_eq, bne_iff_ne, bne_eq_false_iff_eq, decide_eq_true_eq, decide_eq_false_iff_not, Bool.not_true, Bool.not_false, Int.not_le, Int.not_lt] at hc2)) | ((with_reducible refine PickK.split (fun hc => ?_) (fun hc => ?_)) <;> (have hc2 := hc; try simp only [beq_eq_false_iff_ne, beq_iff_eq, ne_eq, bne_iff_ne, bne_eq_false_iff_eq, decide_eq_true_eq, decide_eq_false_iff_not, Bool.not_true, Bool.not_false, Int.not_le, Int.not_lt] at hc2)) | (with_reducible refine dop_buildSlice ?_) | (with_reducible refine dop_build ?_) | ((with_reducible refine Cr.call (f := 11) (armSpan_ok _ _ _) ?_)) | (with_reducible refine CallV.of (f := 11) (armSpan_ok _ _ _) ni11 ?_) | ((with_reducible refine Cr.call (f := 17) (ForceT _ _ _ _ _ _ _ _ _ _ _ _ _ _ _ _ f1.out (by decide)) ?_)) | (with_reducible refine CallV.of (f := 17) (ForceT _ _ _ _ _ _ _ _ _ _ _ _ _ _ _ _ f1.out (by decide)) ni17 ?_) | ((with_reducible refine Cr.call (f := 12) (Right_ok _ _ _ _ _ _ _ _ _ _ _ _ _ _ _ _ _ _ f1.out (by decide) (by decide)) ?_)) | (with_reducible refine CallV.of (f := 12) (Right_ok _ _ _ _ _ _ _ _ _ _ _ _ _ _ _ _ _ _ f1.out (by decide) (by decide)) ni12 ?_) | ((with_reducible refine DDraw.told (id := 2) [] [] mo ?_ ?_); kernel_rfl) | ((with_reducible refine DDraw.told (id := 3) [] [] mo ?_ ?_); kernel_rfl) | ((with_reducible refine GuardD.split (fun hc => ?_) (fun hc => ?_)) <;> (have hc2 := hc; try simp only [beq_eq_false_iff_ne, beq_iff_eq, ne_eq, bne_iff_ne, bne_eq_false_iff_eq, decide_eq_true_eq, decide_eq_false_iff_not, Bool.not_true, Bool.not_false, Int.not_le, Int.not_lt] at hc2)) | (with_reducible refine stp_build ?_) | (with_reducible refine stp_buildSlice ?_) | (with_reducible refine stp_store ?_) | (with_reducible refine stp_ns ?_) | (with_reducible refine NsB.intro (fun h' ho K' hk => by simp -implicitDefEqProofs (maxSteps := 1000000) only [go_sem, seval, *] <;> exact hk) ?_) | (with_reducible refine WrB.intro _ (by simp -implicitDefEqProofs (maxSteps := 1000000) only [go_sem, seval, *]) (fun h' ho K' hk => by simp -implicitDefEqProofs (maxSteps := 1000000) only [go_sem, seval, *]; exact hk) ?_) | ((with_reducible refine DDraw.auto mo ?_ ?_); kernel_rfl)) <;> simp -implicitDefEqProofs (maxSteps := 1000000) only [go_sem, seval, *]) | (with_reducible refine bi_same ?_))

end Go.Proofs.Ytdhdfdaclbfkiaa
