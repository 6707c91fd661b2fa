/-
  Walks. Conditions: none.
-/
import Derived.Test.YtlblahfndlgfmaaB18
set_option linter.unusedVariables false
set_option linter.unusedSimpArgs false
namespace Go.Proofs.Ytlblahfndlgfmaa
open Go.RowKit Go.SL
set_option maxHeartbeats 1000000
set_option maxRecDepth 1000000
attribute [local go_sem] i64w
attribute [local go_sem] dwp_eqGuardE dwp_eqGuardN rval_eqGuardE rval_eqGuardN
attribute [local go_sem] ixv107_0 ixv107_1
/-- A span is valid. -/
def spB (x y lo hi : Int) : Bool := decide (lo ≤ hi) && allI x y [lo, hi]
theorem spB_iff {x y lo hi : Int} : spB x y lo hi = true ↔ x ≤ lo ∧ lo ≤ hi ∧ hi ≤ y := by
  unfold spB; simp [allI]; omega
theorem spB_iff' {x y lo hi : Int} : spB x y lo hi = false ↔ ¬ (x ≤ lo ∧ lo ≤ hi ∧ hi ≤ y) := by
  rw [← spB_iff]; simp
theorem isSpanB (ro : Addr → Option Value) (lo hi x y : Int) : Cr Try.prog 29 #[.agg #[.int .i64 lo, .int .i64 hi], .int .i64 x, .int .i64 y] ro (.bool (spB x y lo hi)) := bisSpan_ok ro lo hi x y
def boltB (ld th hd ot0 ot1 oh0 oh1 st0 st1 sp0 sp1 yi0 yi1 : Int) : Bool := allI 1 100000 [ld] && allI 0 100000 [th, hd] && spB 0 1000 ot0 ot1 && spB 0 1000 oh0 oh1 && spB 1 100000000 st0 st1 && spB 1 100000 sp0 sp1 && spB 1 100000000 yi0 yi1
theorem boltB_iff {ld th hd ot0 ot1 oh0 oh1 st0 st1 sp0 sp1 yi0 yi1 : Int} : boltB ld th hd ot0 ot1 oh0 oh1 st0 st1 sp0 sp1 yi0 yi1 = true ↔ BoltOk ld th hd ot0 ot1 oh0 oh1 st0 st1 sp0 sp1 yi0 yi1 := by
  unfold boltB
  simp only [Bool.and_eq_true, spB_iff, allI, decide_eq_true_eq, and_true]
  constructor
  · rintro ⟨⟨⟨⟨⟨⟨h1, h2⟩, h3⟩, h4⟩, h5⟩, h6⟩, h7⟩
    exact ⟨by omega, by omega, by omega, by omega, by omega, by omega, by omega, by omega⟩
  · rintro ⟨h1, h2, h3, h4, h5, h6, h7, h8⟩
    refine ⟨⟨⟨⟨⟨⟨by omega, by omega⟩, by omega⟩, by omega⟩, by omega⟩, by omega⟩, by omega⟩
def checkV (ld th hd ot0 ot1 oh0 oh1 st0 st1 sp0 sp1 yi0 yi1 : Int) : Int := if boltB ld th hd ot0 ot1 oh0 oh1 st0 st1 sp0 sp1 yi0 yi1 then 0 else 2
theorem checkB (ro : Addr → Option Value) (ld th hd ot0 ot1 oh0 oh1 st0 st1 sp0 sp1 yi0 yi1 : Int) : Cr Try.prog 39 #[.agg #[.int .i64 ld, .int .i64 th, .int .i64 hd, .int .i64 ot0, .int .i64 ot1, .int .i64 oh0, .int .i64 oh1, .int .i64 st0, .int .i64 st1, .int .i64 sp0, .int .i64 sp1, .int .i64 yi0, .int .i64 yi1]] ro (.int .i64 (checkV ld th hd ot0 ot1 oh0 oh1 st0 st1 sp0 sp1 yi0 yi1)) := by
  unfold checkV
  (refine Cr.of Try.func39 rfl rfl (fun F hF => ?_); simp only [Try.ntmps39, Try.results39, List.size_toArray, List.length_cons, List.length_nil, Nat.reduceAdd, Nat.reduceSub, Array.replicate_succ, Array.replicate_zero, List.push_toArray, List.append_toArray, List.nil_append, List.cons_append]; simp -implicitDefEqProofs (maxSteps := 1000000) only [go_sem, seval])
  subst hF
  try simp -implicitDefEqProofs (maxSteps := 1000000) only [go_sem, seval, *]
  repeat' (first | ((first | (with_reducible refine DLoop.rounds 3 ?_) | ((with_reducible refine NewK.intro fun g hg hn => ?_) <;> try simp only [own_none_iff] at hn) | ((with_reducible refine GuardB.split (fun hc => ?_) (fun hc => ?_)) <;> (have hc2 := hc; try simp only [beq_eq_false_iff_ne, beq_iff_eq, ne_eq, bne_iff_ne, bne_eq_false_iff_eq, decide_eq_true_eq, decide_eq_false_iff_not, Bool.not_true, Bool.not_false, Int.not_le, Int.not_lt] at hc2)) | ((with_reducible refine CondK.split (fun hc => ?_) (fun hc => ?_)) <;> (have hc2 := hc; try simp only [beq_eq_false_iff_ne, beq_iff_eq, ne_eq, bne_iff_ne, bne_eq_false_iff_eq, decide_eq_true_eq, decide_eq_false_iff_not, Bool.not_true, Bool.not_false, Int.not_le, Int.not_lt] at hc2)) | ((with_reducible refine PickK.split (fun hc => ?_) (fun hc => ?_)) <;> (have hc2 := hc; try simp only [beq_eq_false_iff_ne, beq_iff_eq, ne_eq, bne_iff_ne, bne_eq_false_iff_eq, decide_eq_true_eq, decide_eq_false_iff_not, Bool.not_true, Bool.not_false, Int.not_le, Int.not_lt] at hc2)) | (with_reducible refine dop_buildSlice ?_) | (with_reducible refine dop_build ?_) | ((with_reducible refine Cr.call (f := 46) (bwithin_ok _ _ _ _ _ _ _ (by simp -implicitDefEqProofs (maxSteps := 1000000) only [go_sem, seval, *]) ⟨by decide⟩) ?_)) | (with_reducible refine CallV.of (f := 46) (bwithin_ok _ _ _ _ _ _ _ (by simp -implicitDefEqProofs (maxSteps := 1000000) only [go_sem, seval, *]) ⟨by decide⟩) ni46 ?_) | ((with_reducible refine Cr.call (f := 29) (isSpanB _ _ _ _ _) ?_)) | (with_reducible refine CallV.of (f := 29) (isSpanB _ _ _ _ _) ni29 ?_) | ((with_reducible refine GuardD.split (fun hc => ?_) (fun hc => ?_)) <;> (have hc2 := hc; try simp only [beq_eq_false_iff_ne, beq_iff_eq, ne_eq, bne_iff_ne, bne_eq_false_iff_eq, decide_eq_true_eq, decide_eq_false_iff_not, Bool.not_true, Bool.not_false, Int.not_le, Int.not_lt] at hc2)) | (with_reducible refine stp_build ?_) | (with_reducible refine stp_buildSlice ?_) | (with_reducible refine stp_store ?_) | (with_reducible refine stp_ns ?_) | (with_reducible refine NsB.intro (fun h' ho K' hk => by simp -implicitDefEqProofs (maxSteps := 1000000) only [go_sem, seval, *] <;> exact hk) ?_) | (with_reducible refine WrB.intro _ (by simp -implicitDefEqProofs (maxSteps := 1000000) only [go_sem, seval, *]) (fun h' ho K' hk => by simp -implicitDefEqProofs (maxSteps := 1000000) only [go_sem, seval, *]; exact hk) (fun h' ho K' hk => by simp -implicitDefEqProofs (maxSteps := 1000000) only [go_sem, seval, *] at hk; exact hk) (fun h' ho hk => by simp -implicitDefEqProofs (maxSteps := 1000000) only [go_sem, seval, *] at hk <;> with_unfolding_all exact False.elim hk) ?_) | (with_reducible refine WrB.intro _ (by simp -implicitDefEqProofs (maxSteps := 1000000) only [go_sem, seval, *]) (fun h' ho K' hk => by simp -implicitDefEqProofs (maxSteps := 1000000) only [go_sem, seval, *]; exact hk) ?_) | ((with_reducible refine DDraw.auto mo ?_ ?_); kernel_rfl)) <;> simp -implicitDefEqProofs (maxSteps := 1000000) only [go_sem, seval, *]) | (with_reducible refine bi_same ?_))
  all_goals (simp_all [boltB, allI] <;> (try (intros; omega)))

end Go.Proofs.Ytlblahfndlgfmaa
