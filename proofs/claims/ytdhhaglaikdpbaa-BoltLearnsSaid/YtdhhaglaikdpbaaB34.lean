/-
  Walks. Conditions: none.
-/
import Derived.Test.YtdhhaglaikdpbaaB33
set_option linter.unusedVariables false
set_option linter.unusedSimpArgs false
namespace Go.Proofs.Ytdhhaglaikdpbaa
open Go.RowKit Go.SL
set_option maxHeartbeats 1000000
set_option maxRecDepth 1000000
attribute [local go_sem] i64w
attribute [local go_sem] dwp_eqGuardE dwp_eqGuardN rval_eqGuardE rval_eqGuardN
theorem gB_three {P : Program} {F : Fr} {ops : Array Oper} {K : Act → Hp → Prop} {o : Oper} {l : List Oper} {a : Act} {h : Hp} {b : Bool} {c : Option Bool} {Q1 Q2 Q3 : Prop} (hb : Hold (Q1 ∨ Q2 ∨ Q3)) (h1 : Q1 → GuardB P F ops K o l a h b c) (h2 : Q2 → GuardB P F ops K o l a h b c) (h3 : Q3 → GuardB P F ops K o l a h b c) : GuardB P F ops K o l a h b c := hb.out.elim h1 (fun h => h.elim h2 h3)
set_option maxHeartbeats 8000000 in
theorem boltTrue_core (ro : Addr → Option Value) (z0 z1 z2 o0 o1 o2 o3 c0 c1 c2 c3 c4 c5 kd y0 y1 y2 y3 r0 r1 r2 r3 r4 r5 r6 r7 l0 l1 ld th hd ot0 ot1 oh0 oh1 st0 st1 sp0 sp1 yi0 yi1 k t0 t1 a0 a1 s0 s1 : Int) (hK : Hold (∀ ro, Cr Try.prog 33 #[.agg #[.int .u8 z0, .int .u8 z1, .int .u8 z2, .int .u8 o0, .int .u8 o1, .int .u8 o2, .int .u8 o3, .int .u8 c0, .int .u8 c1, .int .u8 c2, .int .u8 c3, .int .u8 c4, .int .u8 c5, .int .u8 kd, .int .u16 y0, .int .u16 y1, .int .u16 y2, .int .u16 y3, .int .u8 r0, .int .u8 r1, .int .u8 r2, .int .u8 r3, .int .u8 r4, .int .u8 r5, .int .u8 r6, .int .u8 r7]] ro (.agg #[.int .i64 ld, .int .i64 th, .int .i64 hd, .int .i64 ot0, .int .i64 ot1, .int .i64 oh0, .int .i64 oh1, .int .i64 st0, .int .i64 st1, .int .i64 sp0, .int .i64 sp1, .int .i64 yi0, .int .i64 yi1]))) (hW : Hold (∀ ro, Cr Try.prog 34 #[.agg #[.int .u8 z0, .int .u8 z1, .int .u8 z2, .int .u8 o0, .int .u8 o1, .int .u8 o2, .int .u8 o3, .int .u8 c0, .int .u8 c1, .int .u8 c2, .int .u8 c3, .int .u8 c4, .int .u8 c5, .int .u8 kd, .int .u16 y0, .int .u16 y1, .int .u16 y2, .int .u16 y3, .int .u8 r0, .int .u8 r1, .int .u8 r2, .int .u8 r3, .int .u8 r4, .int .u8 r5, .int .u8 r6, .int .u8 r7]] ro (.agg #[.int .i64 k, .int .i64 t0, .int .i64 t1, .int .i64 a0, .int .i64 a1, .int .i64 s0, .int .i64 s1]))) (bk : Hold (BoltOk ld th hd ot0 ot1 oh0 oh1 st0 st1 sp0 sp1 yi0 yi1)) (bw : Hold (wayB k t0 t1 a0 a1 s0 s1 = true))
    (h0 : 0 ≤ r0 ∧ r0 < 256) (h1 : 0 ≤ r1 ∧ r1 < 256) (h2 : 0 ≤ r2 ∧ r2 < 256) (h3 : 0 ≤ r3 ∧ r3 < 256) (h4 : 0 ≤ r4 ∧ r4 < 256) (h5 : 0 ≤ r5 ∧ r5 < 256) (h6 : 0 ≤ r6 ∧ r6 < 256) (h7 : 0 ≤ r7 ∧ r7 < 256) (hl0 : 0 ≤ l0 ∧ l0 < 256) (hl1 : 0 ≤ l1 ∧ l1 < 256) :
    Cr Try.prog 7 #[.agg #[.int .u8 z0, .int .u8 z1, .int .u8 z2, .int .u8 o0, .int .u8 o1, .int .u8 o2, .int .u8 o3, .int .u8 c0, .int .u8 c1, .int .u8 c2, .int .u8 c3, .int .u8 c4, .int .u8 c5, .int .u8 kd, .int .u16 y0, .int .u16 y1, .int .u16 y2, .int .u16 y3, .int .u8 r0, .int .u8 r1, .int .u8 r2, .int .u8 r3, .int .u8 r4, .int .u8 r5, .int .u8 r6, .int .u8 r7], .agg #[.int .u8 l0, .int .u8 l1]] ro (.bool true) := by
  have fb := force_bd bk.out bw.out
  have tb := tr_bd bk.out bw.out h0 h1 h2 h3 h4 h5 h6
  have hy := bk.out.hy
  have yb := inV_bd (lo := yi0) (hi := yi1) (by omega) h7
  have gb := inV_bd (lo := l0) (hi := l0 + l1) (by omega) h7
  have eLo := tr_lo ld th hd ot0 ot1 oh0 oh1 st0 st1 sp0 sp1 yi0 yi1 k t0 t1 a0 a1 s0 s1
  have eHi := tr_hi ld th hd ot0 ot1 oh0 oh1 st0 st1 sp0 sp1 yi0 yi1 k t0 t1 a0 a1 s0 s1
  obtain ⟨A, hA⟩ : ∃ A, fLo ld th hd ot0 ot1 oh0 oh1 st0 st1 sp0 sp1 yi0 yi1 k t0 t1 a0 a1 s0 s1 = A := ⟨_, rfl⟩
  obtain ⟨B, hB⟩ : ∃ B, fHi ld th hd ot0 ot1 oh0 oh1 st0 st1 sp0 sp1 yi0 yi1 k t0 t1 a0 a1 s0 s1 = B := ⟨_, rfl⟩
  obtain ⟨f, hf⟩ : ∃ f, trV ld th hd ot0 ot1 oh0 oh1 st0 st1 sp0 sp1 yi0 yi1 k t0 t1 a0 a1 s0 s1 r0 r1 r2 r3 r4 r5 r6 = f := ⟨_, rfl⟩
  obtain ⟨Y, hY⟩ : ∃ Y, inV l0 (l0 + l1) r7 = Y := ⟨_, rfl⟩
  obtain ⟨Z, hZ⟩ : ∃ Z, inV yi0 yi1 r7 = Z := ⟨_, rfl⟩
  rw [hA, hB, hf] at tb
  rw [hA, hB] at fb
  rw [hA] at eLo
  rw [hB] at eHi
  rw [hZ] at yb
  rw [hY] at gb
  have w0 : IntKind.i64.wrap l0 = l0 := IntWalk.i64_in _ (by omega)
  have w1 : IntKind.i64.wrap l1 = l1 := IntWalk.i64_in _ (by omega)
  have w2 : IntKind.i64.wrap (l0 + l1) = l0 + l1 := IntWalk.i64_in _ (by omega)
  have p1 : Hold ((-10000000000000 ≤ l0 ∧ l0 ≤ l0 + l1 ∧ l0 + l1 ≤ 10000000000000) ∧ 0 ≤ r7 ∧ r7 < 256) := ⟨by omega⟩
  have p2 : Hold ((-10000000000000 ≤ yi0 ∧ yi0 ≤ yi1 ∧ yi1 ≤ 10000000000000) ∧ 0 ≤ r7 ∧ r7 < 256) := ⟨by omega⟩
  have p3 : Hold (0 ≤ l0 ∧ l0 ≤ l0 + l1 ∧ l0 + l1 ≤ 100000000) := ⟨by omega⟩
  have wf : IntKind.i64.wrap (f - Y) = f - Y := IntWalk.i64_in _ (by omega)
  have d1 : decide (f < A) = false := by simp; omega
  have d2 : decide (f > B) = false := by simp; omega
  have d3 : decide (max 0 (f - Y) < max 0 (A - (l0 + l1))) = false := by simp; omega
  have d4 : decide (max 0 (f - Y) > max 0 (B - l0)) = false := by simp; omega
  have q0 := Hold.mk h0
  have q1 := Hold.mk h1
  have q2 := Hold.mk h2
  have q3 := Hold.mk h3
  have q4 := Hold.mk h4
  have q5 := Hold.mk h5
  have q6 := Hold.mk h6
  obtain ⟨bS, hS⟩ : ∃ b, decide (B ≤ yi0) = b := ⟨_, rfl⟩
  obtain ⟨bP, hP⟩ : ∃ b, decide (A ≤ yi1) = b := ⟨_, rfl⟩
  obtain ⟨bZ, hZ'⟩ : ∃ b, decide (f ≤ Z) = b := ⟨_, rfl⟩
  obtain ⟨bX, hX'⟩ : ∃ b, decide (f > Z) = b := ⟨_, rfl⟩
  have hb : Hold ((bS = true ∧ bP = true ∧ bZ = true) ∨ (bS = false ∧ bP = true) ∨ (bS = false ∧ bP = false ∧ bX = true)) := by
    refine ⟨?_⟩
    subst hS hP hZ' hX'
    simp only [decide_eq_true_eq, decide_eq_false_iff_not]
    omega
  clear fb tb hy yb gb h0 h1 h2 h3 h4 h5 h6 h7 hl0 hl1
  (refine Cr.of Try.func7 rfl rfl (fun F hF => ?_); simp only [Try.ntmps7, Try.results7, List.size_toArray, List.length_cons, List.length_nil, Nat.reduceAdd, Nat.reduceSub, Array.replicate_succ, Array.replicate_zero, List.push_toArray, List.append_toArray, List.nil_append, List.cons_append]; simp -implicitDefEqProofs (maxSteps := 1000000) only [go_sem, seval])
  subst hF
  try simp -implicitDefEqProofs (maxSteps := 1000000) only [go_sem, seval, *]
  repeat' (first | ((first | (((with_reducible refine gB_three hb (fun e => ?_) (fun e => ?_) (fun e => ?_))) <;> clear hb) | ((with_reducible refine NewK.intro fun g hg hn => ?_) <;> try simp only [own_none_iff] at hn) | ((with_reducible refine GuardB.split (fun hc => ?_) (fun hc => ?_)) <;> (have hc2 := hc; try simp only [beq_eq_false_iff_ne, beq_iff_eq, ne_eq, bne_iff_ne, bne_eq_false_iff_eq, decide_eq_true_eq, decide_eq_false_iff_not, Bool.not_true, Bool.not_false, Int.not_le, Int.not_lt] at hc2)) | ((with_reducible refine CondK.split (fun hc => ?_) (fun hc => ?_)) <;> (have hc2 := hc; try simp only [beq_eq_false_iff_ne, beq_iff_eq, ne_eq, bne_iff_ne, bne_eq_false_iff_eq, decide_eq_true_eq, decide_eq_false_iff_not, Bool.not_true, Bool.not_false, Int.not_le, Int.not_lt] at hc2)) | ((with_reducible refine PickK.split (fun hc => ?_) (fun hc => ?_)) <;> (have hc2 := hc; try simp only [beq_eq_false_iff_ne, beq_iff_eq, ne_eq, bne_iff_ne, bne_eq_false_iff_eq, decide_eq_true_eq, decide_eq_false_iff_not, Bool.not_true, Bool.not_false, Int.not_le, Int.not_lt] at hc2)) | (with_reducible refine dop_buildSlice ?_) | (with_reducible refine dop_build ?_) | ((with_reducible refine Cr.call (f := 23) (span_ok _ _ _) ?_)) | (with_reducible refine CallV.of (f := 23) (span_ok _ _ _) ni23 ?_) | ((with_reducible refine Cr.call (f := 33) (hK.out _) ?_)) | (with_reducible refine CallV.of (f := 33) (hK.out _) ni33 ?_) | ((with_reducible refine Cr.call (f := 34) (hW.out _) ?_)) | (with_reducible refine CallV.of (f := 34) (hW.out _) ni34 ?_) | ((with_reducible refine Cr.call (f := 15) (ForceOk _ _ _ _ _ _ _ _ _ _ _ _ _ _ _ _ _ _ _ _ _ bk.out bw.out) ?_)) | (with_reducible refine CallV.of (f := 15) (ForceOk _ _ _ _ _ _ _ _ _ _ _ _ _ _ _ _ _ _ _ _ _ bk.out bw.out) ni15 ?_) | ((with_reducible refine Cr.call (f := 16) (LeftOk _ _ _ _ _ _ _ _ _ _ _ _ _ _ _ _ _ _ _ _ _ _ _ bk.out bw.out p3.out) ?_)) | (with_reducible refine CallV.of (f := 16) (LeftOk _ _ _ _ _ _ _ _ _ _ _ _ _ _ _ _ _ _ _ _ _ _ _ bk.out bw.out p3.out) ni16 ?_) | ((with_reducible refine Cr.call (f := 17) (SafeG _ _ _ _ _ _ _ _ _ _ _ _ _ _ _ _ _ _ _ _ _ bk.out bw.out) ?_)) | (with_reducible refine CallV.of (f := 17) (SafeG _ _ _ _ _ _ _ _ _ _ _ _ _ _ _ _ _ _ _ _ _ bk.out bw.out) ni17 ?_) | ((with_reducible refine Cr.call (f := 37) (in_ok _ _ _ _ p1.out.1 p1.out.2) ?_)) | (with_reducible refine CallV.of (f := 37) (in_ok _ _ _ _ p1.out.1 p1.out.2) ni37 ?_) | ((with_reducible refine Cr.call (f := 37) (in_ok _ _ _ _ p2.out.1 p2.out.2) ?_)) | (with_reducible refine CallV.of (f := 37) (in_ok _ _ _ _ p2.out.1 p2.out.2) ni37 ?_) | ((with_reducible refine Cr.call (f := 36) (ends_t _) ?_)) | (with_reducible refine CallV.of (f := 36) (ends_t _) ni36 ?_) | ((with_reducible refine Cr.call (f := 36) (ends_f _) ?_)) | (with_reducible refine CallV.of (f := 36) (ends_f _) ni36 ?_) | ((with_reducible refine Cr.call (f := 35) (tr_ok _ _ _ _ _ _ _ _ _ _ _ _ _ _ _ _ _ _ _ _ _ _ _ _ _ _ _ _ _ bk.out bw.out (by decide) (by decide) (by decide) (by decide) (by decide) (by decide) (by decide)) ?_)) | (with_reducible refine CallV.of (f := 35) (tr_ok _ _ _ _ _ _ _ _ _ _ _ _ _ _ _ _ _ _ _ _ _ _ _ _ _ _ _ _ _ bk.out bw.out (by decide) (by decide) (by decide) (by decide) (by decide) (by decide) (by decide)) ni35 ?_) | ((with_reducible refine Cr.call (f := 35) (tr_ok _ _ _ _ _ _ _ _ _ _ _ _ _ _ _ _ _ _ _ _ _ _ _ _ _ _ _ _ _ bk.out bw.out q0.out q1.out q2.out q3.out q4.out q5.out q6.out) ?_)) | (with_reducible refine CallV.of (f := 35) (tr_ok _ _ _ _ _ _ _ _ _ _ _ _ _ _ _ _ _ _ _ _ _ _ _ _ _ _ _ _ _ bk.out bw.out q0.out q1.out q2.out q3.out q4.out q5.out q6.out) ni35 ?_) | ((with_reducible refine Cr.call (f := 20) (lawKnown_ok _) ?_)) | (with_reducible refine CallV.of (f := 20) (lawKnown_ok _) ni20 ?_) | ((with_reducible refine DDraw.told (id := 1) [] [] mo ?_ ?_); kernel_rfl) | ((with_reducible refine GuardD.split (fun hc => ?_) (fun hc => ?_)) <;> (have hc2 := hc; try simp only [beq_eq_false_iff_ne, beq_iff_eq, ne_eq, bne_iff_ne, bne_eq_false_iff_eq, decide_eq_true_eq, decide_eq_false_iff_not, Bool.not_true, Bool.not_false, Int.not_le, Int.not_lt] at hc2)) | (with_reducible refine stp_build ?_) | (with_reducible refine stp_buildSlice ?_) | (with_reducible refine stp_store ?_) | (with_reducible refine stp_ns ?_) | (with_reducible refine NsB.intro (fun h' ho K' hk => by simp -implicitDefEqProofs (maxSteps := 1000000) only [go_sem, seval, *] <;> exact hk) ?_) | (with_reducible refine WrB.intro _ (by simp -implicitDefEqProofs (maxSteps := 1000000) only [go_sem, seval, *]) (fun h' ho K' hk => by simp -implicitDefEqProofs (maxSteps := 1000000) only [go_sem, seval, *]; exact hk) ?_) | ((with_reducible refine DDraw.auto mo ?_ ?_); kernel_rfl)) <;> simp -implicitDefEqProofs (maxSteps := 1000000) only [go_sem, seval, *]) | (with_reducible refine bi_same ?_))
theorem boltTrue_ok (ro : Addr → Option Value) (z0 z1 z2 o0 o1 o2 o3 c0 c1 c2 c3 c4 c5 kd y0 y1 y2 y3 r0 r1 r2 r3 r4 r5 r6 r7 l0 l1 : Int) (hz0 : 0 ≤ z0 ∧ z0 < 256) (hz1 : 0 ≤ z1 ∧ z1 < 256) (hz2 : 0 ≤ z2 ∧ z2 < 256) (ho0 : 0 ≤ o0 ∧ o0 < 256) (ho1 : 0 ≤ o1 ∧ o1 < 256) (ho2 : 0 ≤ o2 ∧ o2 < 256) (ho3 : 0 ≤ o3 ∧ o3 < 256) (hc0 : 0 ≤ c0 ∧ c0 < 256) (hc1 : 0 ≤ c1 ∧ c1 < 256) (hc2 : 0 ≤ c2 ∧ c2 < 256) (hc3 : 0 ≤ c3 ∧ c3 < 256) (hc4 : 0 ≤ c4 ∧ c4 < 256) (hc5 : 0 ≤ c5 ∧ c5 < 256) (hkd : 0 ≤ kd ∧ kd < 256) (hy0 : 0 ≤ y0 ∧ y0 < 65536) (hy1 : 0 ≤ y1 ∧ y1 < 65536) (hy2 : 0 ≤ y2 ∧ y2 < 65536) (hy3 : 0 ≤ y3 ∧ y3 < 65536) (hr0 : 0 ≤ r0 ∧ r0 < 256) (hr1 : 0 ≤ r1 ∧ r1 < 256) (hr2 : 0 ≤ r2 ∧ r2 < 256) (hr3 : 0 ≤ r3 ∧ r3 < 256) (hr4 : 0 ≤ r4 ∧ r4 < 256) (hr5 : 0 ≤ r5 ∧ r5 < 256) (hr6 : 0 ≤ r6 ∧ r6 < 256) (hr7 : 0 ≤ r7 ∧ r7 < 256) (hl0 : 0 ≤ l0 ∧ l0 < 256) (hl1 : 0 ≤ l1 ∧ l1 < 256) :
    Cr Try.prog 7 #[.agg #[.int .u8 z0, .int .u8 z1, .int .u8 z2, .int .u8 o0, .int .u8 o1, .int .u8 o2, .int .u8 o3, .int .u8 c0, .int .u8 c1, .int .u8 c2, .int .u8 c3, .int .u8 c4, .int .u8 c5, .int .u8 kd, .int .u16 y0, .int .u16 y1, .int .u16 y2, .int .u16 y3, .int .u8 r0, .int .u8 r1, .int .u8 r2, .int .u8 r3, .int .u8 r4, .int .u8 r5, .int .u8 r6, .int .u8 r7], .agg #[.int .u8 l0, .int .u8 l1]] ro (.bool true) :=
  boltTrue_core ro z0 z1 z2 o0 o1 o2 o3 c0 c1 c2 c3 c4 c5 kd y0 y1 y2 y3 r0 r1 r2 r3 r4 r5 r6 r7 l0 l1 (1 + 10 * z0) (20 * z1) (30 * z2) o0 (o0 + o1 % 60) o2 (o2 + o3 % 60) (1 + 100 * c0) (1 + 100 * c0 + 10 * c1) (1 + c2) (1 + c2 + c3 % 20) (1 + 100 * c4) (1 + 100 * c4 + 10 * c5) (wK kd) (wT0 kd y0) (wT1 kd y0 y1) (wA0 kd y2) (wA1 kd y2 y3) (wS0 kd y2) (wS1 kd y2 y3) ⟨fun ro => kindT_ok ro z0 z1 z2 o0 o1 o2 o3 c0 c1 c2 c3 c4 c5 kd y0 y1 y2 y3 r0 r1 r2 r3 r4 r5 r6 r7 hz0 hz1 hz2 ho0 ho1 ho2 ho3 hc0 hc1 hc2 hc3 hc4 hc5 hkd hy0 hy1 hy2 hy3 hr0 hr1 hr2 hr3 hr4 hr5 hr6 hr7⟩ ⟨fun ro => wayT_ok ro z0 z1 z2 o0 o1 o2 o3 c0 c1 c2 c3 c4 c5 kd y0 y1 y2 y3 r0 r1 r2 r3 r4 r5 r6 r7 hz0 hz1 hz2 ho0 ho1 ho2 ho3 hc0 hc1 hc2 hc3 hc4 hc5 hkd hy0 hy1 hy2 hy3 hr0 hr1 hr2 hr3 hr4 hr5 hr6 hr7⟩ ⟨kindT_fit hz0 hz1 hz2 ho0 ho1 ho2 ho3 hc0 hc1 hc2 hc3 hc4 hc5 hkd hy0 hy1 hy2 hy3 hr0 hr1 hr2 hr3 hr4 hr5 hr6 hr7⟩ ⟨wayT_fit hkd hy0 hy1 hy2 hy3⟩ hr0 hr1 hr2 hr3 hr4 hr5 hr6 hr7 hl0 hl1

end Go.Proofs.Ytdhhaglaikdpbaa
