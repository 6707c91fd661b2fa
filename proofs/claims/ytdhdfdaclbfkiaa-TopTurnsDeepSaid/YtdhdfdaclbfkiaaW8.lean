/-
  Walks. Conditions: none.
-/
import Derived.Test.YtdhdfdaclbfkiaaW7
set_option linter.unusedVariables false
set_option linter.unusedSimpArgs false
namespace Go.Proofs.Ytdhdfdaclbfkiaa
open Go.RowKit Go.SL
set_option maxHeartbeats 1000000
set_option maxRecDepth 1000000
theorem bigTurns_ok (ro : Addr → Option Value) (p l r a b s : Int) (lh : Bool) (t p' l' r' a' b' c c' lo hi : Int) (hv : FormOk p l r a b s t) (hv' : FormOk p' l' r' a' b' s t)
    (hc : -10000 ≤ c ∧ c ≤ 10000) (hc' : -10000 ≤ c' ∧ c' ≤ 10000) (hlo : -200000 ≤ lo ∧ lo ≤ 200000) (hhi : -200000 ≤ hi ∧ hi ≤ 200000) (h : lo ≤ hi) :
    Cr Try.prog 29 #[.agg #[.int .i64 p, .int .i64 l, .int .i64 r, .int .i64 a, .int .i64 b, .int .i64 s, .bool lh, .int .i64 t], .agg #[.int .i64 p', .int .i64 l', .int .i64 r', .int .i64 a', .int .i64 b', .int .i64 s, .bool lh, .int .i64 t], .int .i64 c, .int .i64 c', .agg #[.int .i64 lo, .int .i64 hi]] ro
      (.tuple #[.int .i64 (turnsV p l r c p' l' r' c' lo hi), .int .i64 0]) := by
  have hp : Hold (0 ≤ p ∧ p ≤ 200000) := ⟨by have := hv.hp; omega⟩
  have hp' : Hold (0 ≤ p' ∧ p' ≤ 200000) := ⟨by have := hv'.hp; omega⟩
  have q1 := Hold.mk hc
  have q2 := Hold.mk hc'
  have q3 := Hold.mk hlo
  have q4 := Hold.mk hhi
  obtain ⟨c1, c2⟩ := hc
  obtain ⟨c3, c4⟩ := hc'
  obtain ⟨c5, c6⟩ := hlo
  obtain ⟨c7, c8⟩ := hhi
  have hv := Hold.mk hv
  have hv' := Hold.mk hv'
  (refine Cr.of Try.func29 rfl rfl (fun F hF => ?_); simp only [Try.ntmps29, Try.results29, List.size_toArray, List.length_cons, List.length_nil, Nat.reduceAdd, Nat.reduceSub, Array.replicate_succ, Array.replicate_zero, List.push_toArray, List.append_toArray, List.nil_append, List.cons_append]; simp -implicitDefEqProofs (maxSteps := 1000000) only [go_sem, seval])
  subst hF
  repeat' (first | ((first | ((with_reducible refine NewK.intro fun g hg hn => ?_) <;> try simp only [own_none_iff] at hn) | ((with_reducible refine GuardB.split (fun hc => ?_) (fun hc => ?_)) <;> (have hc2 := hc; try simp only [beq_eq_false_iff_ne, beq_iff_eq, ne_eq, bne_iff_ne, bne_eq_false_iff_eq, decide_eq_true_eq, decide_eq_false_iff_not, Bool.not_true, Bool.not_false, Int.not_le, Int.not_lt] at hc2)) | ((with_reducible refine CondK.split (fun hc => ?_) (fun hc => ?_)) <;> (have hc2 := hc; try simp only [beq_eq_false_iff_ne, beq_iff_eq, ne_eq, bne_iff_ne, bne_eq_false_iff_eq, decide_eq_true_eq, decide_eq_false_iff_not, Bool.not_true, Bool.not_false, Int.not_le, Int.not_lt] at hc2)) | ((with_reducible refine PickK.split (fun hc => ?_) (fun hc => ?_)) <;> (have hc2 := hc; try simp only [beq_eq_false_iff_ne, beq_iff_eq, ne_eq, bne_iff_ne, bne_eq_false_iff_eq, decide_eq_true_eq, decide_eq_false_iff_not, Bool.not_true, Bool.not_false, Int.not_le, Int.not_lt] at hc2)) | (with_reducible refine dop_buildSlice ?_) | (with_reducible refine dop_build ?_) | ((with_reducible refine Cr.call (f := 64) (check_ok _ _ _ _ _ _ _ _ _ hv.out) ?_)) | (with_reducible refine CallV.of (f := 64) (check_ok _ _ _ _ _ _ _ _ _ hv.out) ni64 ?_) | ((with_reducible refine Cr.call (f := 64) (check_ok _ _ _ _ _ _ _ _ _ hv'.out) ?_)) | (with_reducible refine CallV.of (f := 64) (check_ok _ _ _ _ _ _ _ _ _ hv'.out) ni64 ?_) | ((with_reducible refine Cr.call (f := 78) (swithin_ok _ _ _ _ _ _ _ (by simp -implicitDefEqProofs (maxSteps := 1000000) only [go_sem, seval, *]) ⟨by decide⟩) ?_)) | (with_reducible refine CallV.of (f := 78) (swithin_ok _ _ _ _ _ _ _ (by simp -implicitDefEqProofs (maxSteps := 1000000) only [go_sem, seval, *]) ⟨by decide⟩) ni78 ?_) | ((with_reducible refine Cr.call (f := 79) (isDepth_ok _ _ _) ?_)) | (with_reducible refine CallV.of (f := 79) (isDepth_ok _ _ _) ni79 ?_) | ((with_reducible refine Cr.call (f := 80) (turns_ok _ _ _ _ _ _ _ _ _ _ _ _ _ _ _ _ _ _ hp ⟨hv.out.hl⟩ ⟨hv.out.hr⟩ q1 hp' ⟨hv'.out.hl⟩ ⟨hv'.out.hr⟩ q2 q3 q4) ?_)) | (with_reducible refine CallV.of (f := 80) (turns_ok _ _ _ _ _ _ _ _ _ _ _ _ _ _ _ _ _ _ hp ⟨hv.out.hl⟩ ⟨hv.out.hr⟩ q1 hp' ⟨hv'.out.hl⟩ ⟨hv'.out.hr⟩ q2 q3 q4) ni80 ?_) | ((with_reducible refine GuardD.split (fun hc => ?_) (fun hc => ?_)) <;> (have hc2 := hc; try simp only [beq_eq_false_iff_ne, beq_iff_eq, ne_eq, bne_iff_ne, bne_eq_false_iff_eq, decide_eq_true_eq, decide_eq_false_iff_not, Bool.not_true, Bool.not_false, Int.not_le, Int.not_lt] at hc2)) | (with_reducible refine stp_build ?_) | (with_reducible refine stp_buildSlice ?_) | (with_reducible refine stp_store ?_) | (with_reducible refine stp_ns ?_) | (with_reducible refine NsB.intro (fun h' ho K' hk => by simp -implicitDefEqProofs (maxSteps := 1000000) only [go_sem, seval, *] <;> exact hk) ?_) | (with_reducible refine WrB.intro _ (by simp -implicitDefEqProofs (maxSteps := 1000000) only [go_sem, seval, *]) (fun h' ho K' hk => by simp -implicitDefEqProofs (maxSteps := 1000000) only [go_sem, seval, *]; exact hk) (fun h' ho K' hk => by simp -implicitDefEqProofs (maxSteps := 1000000) only [go_sem, seval, *] at hk; exact hk) (fun h' ho hk => by simp -implicitDefEqProofs (maxSteps := 1000000) only [go_sem, seval, *] at hk <;> with_unfolding_all exact False.elim hk) ?_) | (with_reducible refine WrB.intro _ (by simp -implicitDefEqProofs (maxSteps := 1000000) only [go_sem, seval, *]) (fun h' ho K' hk => by simp -implicitDefEqProofs (maxSteps := 1000000) only [go_sem, seval, *]; exact hk) ?_) | ((with_reducible refine DDraw.auto mo ?_ ?_); kernel_rfl)) <;> simp -implicitDefEqProofs (maxSteps := 1000000) only [go_sem, seval, *]) | (with_reducible refine bi_same ?_))

end Go.Proofs.Ytdhdfdaclbfkiaa
