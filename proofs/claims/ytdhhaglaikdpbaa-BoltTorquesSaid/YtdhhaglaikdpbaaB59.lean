/-
  Walks. Conditions: none.
-/
import Derived.Test.YtdhhaglaikdpbaaB53
set_option linter.unusedVariables false
set_option linter.unusedSimpArgs false
namespace Go.Proofs.Ytdhhaglaikdpbaa
open Go.RowKit Go.SL
set_option maxHeartbeats 1000000
set_option maxRecDepth 1000000
attribute [local go_sem] fl_getD fl_get fl_set lk_def st_def gL_nil gL_zero gL_succ sL_nil_zero sL_nil_succ sL_zero sL_succ Option.getD_none FgK_app onlyL_nil onlyL_none onlyL_some setO_some toB_bool toB_undef yl_def
attribute [local go_sem high] GuardK_yl GuardL_yl
theorem forcesT_law {ld th hd ot0 ot1 oh0 oh1 st0 st1 sp0 sp1 yi0 yi1 a b : Int} (bk : BoltOk ld th hd ot0 ot1 oh0 oh1 st0 st1 sp0 sp1 yi0 yi1) (hb : 0 ≤ a ∧ a ≤ b ∧ b ≤ 30000000000000) :
    mnF (fTr ld th hd ot0 ot1 oh0 oh1 st0 st1 sp0 sp1 yi0 yi1 1 a b 0 0 0 0) 256 = endT (armV ld th hd ot1 oh1) a ∧ mxF (fTr ld th hd ot0 ot1 oh0 oh1 st0 st1 sp0 sp1 yi0 yi1 1 a b 0 0 0 0) 256 = endT (armV ld th hd ot0 oh0) b ∧ allF (fun i => decide (fTr ld th hd ot0 ot1 oh0 oh1 st0 st1 sp0 sp1 yi0 yi1 1 a b 0 0 0 0 i ≤ yTr yi0 yi1 i)) 256 = decide (endT (armV ld th hd ot0 oh0) b ≤ yi0)
    ∧ anyF (fun i => decide (fTr ld th hd ot0 ot1 oh0 oh1 st0 st1 sp0 sp1 yi0 yi1 1 a b 0 0 0 0 i ≤ yTr yi0 yi1 i)) 256 = decide (endT (armV ld th hd ot1 oh1) a ≤ yi1) := by
  have hy := bk.hy
  have ho := bk.ho
  have hp := bk.hp
  have bd : ∀ i : Nat, endT (armV ld th hd ot1 oh1) a ≤ fTr ld th hd ot0 ot1 oh0 oh1 st0 st1 sp0 sp1 yi0 yi1 1 a b 0 0 0 0 i ∧ fTr ld th hd ot0 ot1 oh0 oh1 st0 st1 sp0 sp1 yi0 yi1 1 a b 0 0 0 0 i ≤ endT (armV ld th hd ot0 oh0) b := by
    intro i
    unfold fTr frV
    have i0 : ot0 ≤ endV ot0 ot1 (i / 1) ∧ endV ot0 ot1 (i / 1) ≤ ot1 := endV_bd (by omega) (by omega)
    have i1 : oh0 ≤ endV oh0 oh1 (i / 2) ∧ endV oh0 oh1 (i / 2) ≤ oh1 := endV_bd (by omega) (by omega)
    have i5 : a ≤ endV a b (i / 32) ∧ endV a b (i / 32) ≤ b := endV_bd (by omega) (by omega)
    generalize endV ot0 ot1 (i / 1) = x at *
    generalize endV oh0 oh1 (i / 2) = y at *
    have m0 := arm_mono (ld := ld) bk.ht.1 bk.hh.1 i0.1 i1.1
    have m1 := arm_mono (ld := ld) bk.ht.1 bk.hh.1 i0.2 i1.2
    have b0 := arm_bd ld th hd ot0 oh0 bk.hl bk.ht bk.hh (by omega) (by omega)
    have b1 := arm_bd ld th hd x y bk.hl bk.ht bk.hh (by omega) (by omega)
    simp only [show ¬ ((1 : Int) = 3) by decide, show ¬ ((1 : Int) = 2) by decide, if_false]
    exact ⟨endT_mono (by omega) m1 (by omega) i5.1, endT_mono (by omega) m0 (by omega) i5.2⟩
  have hl : fTr ld th hd ot0 ot1 oh0 oh1 st0 st1 sp0 sp1 yi0 yi1 1 a b 0 0 0 0 19 = endT (armV ld th hd ot1 oh1) a := by
    unfold fTr frV; simp [endV]
  have hh : fTr ld th hd ot0 ot1 oh0 oh1 st0 st1 sp0 sp1 yi0 yi1 1 a b 0 0 0 0 236 = endT (armV ld th hd ot0 oh0) b := by
    unfold fTr frV; simp [endV]
  have yb : ∀ i, yi0 ≤ yTr yi0 yi1 i ∧ yTr yi0 yi1 i ≤ yi1 := fun i => endV_bd (by omega) (by omega)
  refine ⟨mnF_eq 19 (by decide) (fun i _ => (bd i).1) hl, mxF_eq 236 (by decide) (fun i _ => (bd i).2) hh, ?_, ?_⟩
  · rw [Bool.eq_iff_iff, allF_iff, decide_eq_true_eq]
    constructor
    · intro h
      have h1 := of_decide_eq_true (h 236 (by decide))
      have h2 : yTr yi0 yi1 236 = yi0 := by simp [yTr, endV]
      rw [hh, h2] at h1
      exact h1
    · intro h i _
      have h1 := (bd i).2
      have h2 := (yb i).1
      exact decide_eq_true (by omega)
  · rw [Bool.eq_iff_iff, anyF_iff, decide_eq_true_eq]
    constructor
    · rintro ⟨i, _, h⟩
      have h0 := of_decide_eq_true h
      have h1 := (bd i).1
      have h2 := (yb i).2
      omega
    · intro h
      refine ⟨19, by decide, decide_eq_true ?_⟩
      have h2 : yTr yi0 yi1 19 = yi1 := by simp [yTr, endV]
      rw [hl, h2]
      exact h
theorem refForcesT_ok (ro : Addr → Option Value) (ld th hd ot0 ot1 oh0 oh1 st0 st1 sp0 sp1 yi0 yi1 a b : Int) (bk : BoltOk ld th hd ot0 ot1 oh0 oh1 st0 st1 sp0 sp1 yi0 yi1) (hb : 0 ≤ a ∧ a ≤ b ∧ b ≤ 30000000000000) :
    Cr Try.prog 21 #[.agg #[.int .i64 ld, .int .i64 th, .int .i64 hd, .int .i64 ot0, .int .i64 ot1, .int .i64 oh0, .int .i64 oh1, .int .i64 st0, .int .i64 st1, .int .i64 sp0, .int .i64 sp1, .int .i64 yi0, .int .i64 yi1], .agg #[.int .i64 1, .int .i64 a, .int .i64 b, .int .i64 0, .int .i64 0, .int .i64 0, .int .i64 0]] ro (.tuple #[.agg #[.int .i64 (endT (armV ld th hd ot1 oh1) a), .int .i64 (endT (armV ld th hd ot0 oh0) b)], .bool (decide (endT (armV ld th hd ot0 oh0) b ≤ yi0)), .bool (decide (endT (armV ld th hd ot1 oh1) a ≤ yi1))]) := by
  have h := refForces_ok ro ld th hd ot0 ot1 oh0 oh1 st0 st1 sp0 sp1 yi0 yi1 1 a b 0 0 0 0 bk ⟨by omega, by omega, by omega⟩
  have law := forcesT_law bk hb
  rw [law.1, law.2.1, law.2.2.1, law.2.2.2] at h
  exact h
theorem refSet_ok (ro : Addr → Option Value) (q x0 x1 : Int) (hq : -1 ≤ q ∧ q ≤ 10000000000001) (hx : -10000000000000 ≤ x0 ∧ x0 ≤ 10000000000000) (hy : -10000000000000 ≤ x1 ∧ x1 ≤ 10000000000000) :
    Cr Try.prog 58 #[.int .i64 q, .agg #[.int .i64 x0, .int .i64 x1]] ro (.agg #[.int .i64 1, .int .i64 (max 0 (q + x0)), .int .i64 (max 0 (q + x1)), .int .i64 0, .int .i64 0, .int .i64 0, .int .i64 0]) := by
  have w1 : IntKind.i64.wrap (q + x0) = q + x0 := IntWalk.i64_in _ (by omega)
  have w2 : IntKind.i64.wrap (q + x1) = q + x1 := IntWalk.i64_in _ (by omega)
  clear hq hx hy
  (refine Cr.ofP (l := _) Try.func58 Try.ntmps58 rfl rfl (by simp only [seval, List.length_cons, List.length_nil]) (by simp only [seval, List.length_cons, List.length_nil]) (fun F hF => ?_); simp only [Try.results58, List.map_cons, List.map_nil])
  subst hF
  repeat' (first | (with_reducible refine at_seq (by with_unfolding_all exact rfl) ?_) | ((first | (with_reducible refine at_plain (by with_unfolding_all exact rfl) ?_) | (with_reducible refine at_draw (by with_unfolding_all exact rfl) ?_) | (with_reducible refine at_cond (by with_unfolding_all exact rfl) ?_) | (with_reducible refine at_exit (by with_unfolding_all exact rfl) ?_) | (with_reducible refine at_ret (by with_unfolding_all exact rfl) ?_) | (with_reducible refine at_skip (by with_unfolding_all exact rfl) ?_) | (with_reducible refine at_label (by with_unfolding_all exact rfl) ?_)) <;> try simp -implicitDefEqProofs (maxSteps := 1000000) only [go_sem, seval, *]) | (with_reducible refine at_block (by with_unfolding_all exact rfl) ?_) | (with_reducible refine at_loop (by with_unfolding_all exact rfl) ?_) | ((first | ((with_reducible refine NewK.intro fun g hg hn => ?_) <;> try simp only [own_none_iff] at hn) | ((with_reducible refine GuardB.split (fun hc => ?_) (fun hc => ?_)) <;> (have hc2 := hc; try simp only [beq_eq_false_iff_ne, beq_iff_eq, ne_eq, bne_iff_ne, bne_eq_false_iff_eq, decide_eq_true_eq, decide_eq_false_iff_not, Bool.not_true, Bool.not_false, Int.not_le, Int.not_lt] at hc2)) | ((with_reducible refine CondK.split (fun hc => ?_) (fun hc => ?_)) <;> (have hc2 := hc; try simp only [beq_eq_false_iff_ne, beq_iff_eq, ne_eq, bne_iff_ne, bne_eq_false_iff_eq, decide_eq_true_eq, decide_eq_false_iff_not, Bool.not_true, Bool.not_false, Int.not_le, Int.not_lt] at hc2)) | ((with_reducible refine PickK.split (fun hc => ?_) (fun hc => ?_)) <;> (have hc2 := hc; try simp only [beq_eq_false_iff_ne, beq_iff_eq, ne_eq, bne_iff_ne, bne_eq_false_iff_eq, decide_eq_true_eq, decide_eq_false_iff_not, Bool.not_true, Bool.not_false, Int.not_le, Int.not_lt] at hc2)) | (with_reducible refine dop_buildSlice ?_) | (with_reducible refine dop_build ?_) | ((with_reducible refine GuardD.split (fun hc => ?_) (fun hc => ?_)) <;> (have hc2 := hc; try simp only [beq_eq_false_iff_ne, beq_iff_eq, ne_eq, bne_iff_ne, bne_eq_false_iff_eq, decide_eq_true_eq, decide_eq_false_iff_not, Bool.not_true, Bool.not_false, Int.not_le, Int.not_lt] at hc2)) | (with_reducible refine stp_build ?_) | (with_reducible refine stp_buildSlice ?_) | (with_reducible refine stp_store ?_) | (with_reducible refine stp_ns ?_) | (with_reducible refine NsB.intro (fun h' ho K' hk => by simp -implicitDefEqProofs (maxSteps := 1000000) only [go_sem, seval, *] <;> exact hk) ?_) | (with_reducible refine WrB.intro _ (by simp -implicitDefEqProofs (maxSteps := 1000000) only [go_sem, seval, *]) (fun h' ho K' hk => by simp -implicitDefEqProofs (maxSteps := 1000000) only [go_sem, seval, *]; exact hk) ?_) | ((with_reducible refine DDraw.auto mo ?_ ?_); kernel_rfl)) <;> simp -implicitDefEqProofs (maxSteps := 1000000) only [go_sem, seval, *]) | (with_reducible refine bi_same ?_))

end Go.Proofs.Ytdhhaglaikdpbaa
