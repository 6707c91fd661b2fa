/-
  Walks. Conditions: none.
-/
import Derived.Test.YtdhdfdaclbfkiaaW6
set_option linter.unusedVariables false
set_option linter.unusedSimpArgs false
namespace Go.Proofs.Ytdhdfdaclbfkiaa
open Go.RowKit Go.SL
set_option maxHeartbeats 1000000
set_option maxRecDepth 1000000
def driftV (p p' : Int) : Int := max (4000 * (p' - p)) (-(4000 * (p' - p)))
def turnsV (p l r c p' l' r' c' lo hi : Int) : Int :=
  if playV p l r c p' l' r' c' lo hi < 0 then 0 else if driftV p p' = 0 then 100 else min 100 (1 + playV p l r c p' l' r' c' lo hi / driftV p p')
theorem playV_bd (p l r c p' l' r' c' lo hi : Int) (hp : 0 ≤ p ∧ p ≤ 200000) (hl : 0 ≤ l ∧ l ≤ 3000) (hr : 0 ≤ r ∧ r ≤ 3000) (hc : -10000 ≤ c ∧ c ≤ 10000)
    (hp' : 0 ≤ p' ∧ p' ≤ 200000) (hl' : 0 ≤ l' ∧ l' ≤ 3000) (hr' : 0 ≤ r' ∧ r' ≤ 3000) (hc' : -10000 ≤ c' ∧ c' ≤ 10000)
    (hlo : -200000 ≤ lo ∧ lo ≤ 200000) (hhi : -200000 ≤ hi ∧ hi ≤ 200000) : -12000000000 ≤ playV p l r c p' l' r' c' lo hi ∧ playV p l r c p' l' r' c' lo hi ≤ 12000000000 := by
  have b1 := leftV_bd p l c lo hp hl hc hlo
  have b2 := leftV_bd p l c hi hp hl hc hhi
  have b3 := leftV_bd p' l' c' lo hp' hl' hc' hlo
  have b4 := leftV_bd p' l' c' hi hp' hl' hc' hhi
  have b5 := rightV_bd p r c lo hp hr hc hlo
  have b6 := rightV_bd p r c hi hp hr hc hhi
  have b7 := rightV_bd p' r' c' lo hp' hr' hc' hlo
  have b8 := rightV_bd p' r' c' hi hp' hr' hc' hhi
  unfold playV
  omega
theorem turns_ok (ro : Addr → Option Value) (p l r a b s : Int) (lh : Bool) (t c p' l' r' a' b' c' lo hi : Int)
    (hp : Hold (0 ≤ p ∧ p ≤ 200000)) (hl : Hold (0 ≤ l ∧ l ≤ 3000)) (hr : Hold (0 ≤ r ∧ r ≤ 3000)) (hc : Hold (-10000 ≤ c ∧ c ≤ 10000))
    (hp' : Hold (0 ≤ p' ∧ p' ≤ 200000)) (hl' : Hold (0 ≤ l' ∧ l' ≤ 3000)) (hr' : Hold (0 ≤ r' ∧ r' ≤ 3000)) (hc' : Hold (-10000 ≤ c' ∧ c' ≤ 10000))
    (hlo : Hold (-200000 ≤ lo ∧ lo ≤ 200000)) (hhi : Hold (-200000 ≤ hi ∧ hi ≤ 200000)) :
    Cr Try.prog 80 #[.agg #[.int .i64 p, .int .i64 l, .int .i64 r, .int .i64 a, .int .i64 b, .int .i64 s, .bool lh, .int .i64 t, .int .i64 c], .agg #[.int .i64 p', .int .i64 l', .int .i64 r', .int .i64 a', .int .i64 b', .int .i64 s, .bool lh, .int .i64 t, .int .i64 c'], .agg #[.int .i64 lo, .int .i64 hi]] ro
      (.int .i64 (turnsV p l r c p' l' r' c' lo hi)) := by
  have hb := Hold.mk (playV_bd p l r c p' l' r' c' lo hi hp.out hl.out hr.out hc.out hp'.out hl'.out hr'.out hc'.out hlo.out hhi.out)
  have e1 : IntKind.i64.wrap (4000 * IntKind.i64.wrap (p' - p)) = 4000 * (p' - p) := by
    have := hp.out; have := hp'.out
    rw [IntWalk.i64_in (p' - p) (by omega), IntWalk.i64_in _ (by omega)]
  have e2 : max (4000 * (p' - p)) (IntKind.i64.wrap (0 - 4000 * (p' - p))) = driftV p p' := by
    have := hp.out; have := hp'.out
    rw [IntWalk.i64_in _ (by omega), Int.zero_sub]; rfl
  (refine Cr.of Try.func80 rfl rfl (fun F hF => ?_); simp only [Try.ntmps80, Try.results80, List.size_toArray, List.length_cons, List.length_nil, Nat.reduceAdd, Nat.reduceSub, Array.replicate_succ, Array.replicate_zero, List.push_toArray, List.append_toArray, List.nil_append, List.cons_append]; simp -implicitDefEqProofs (maxSteps := 1000000) only [go_sem, seval])
  subst hF
  repeat' (first | ((first | ((with_reducible refine NewK.intro fun g hg hn => ?_) <;> try simp only [own_none_iff] at hn) | ((with_reducible refine GuardB.split (fun hc => ?_) (fun hc => ?_)) <;> (have hc2 := hc; try simp only [beq_eq_false_iff_ne, beq_iff_eq, ne_eq, bne_iff_ne, bne_eq_false_iff_eq, decide_eq_true_eq, decide_eq_false_iff_not, Bool.not_true, Bool.not_false, Int.not_le, Int.not_lt] at hc2)) | ((with_reducible refine CondK.split (fun hc => ?_) (fun hc => ?_)) <;> (have hc2 := hc; try simp only [beq_eq_false_iff_ne, beq_iff_eq, ne_eq, bne_iff_ne, bne_eq_false_iff_eq, decide_eq_true_eq, decide_eq_false_iff_not, Bool.not_true, Bool.not_false, Int.not_le, Int.not_lt] at hc2)) | ((with_reducible refine PickK.split (fun hc => ?_) (fun hc => ?_)) <;> (have hc2 := hc; try simp only [beq_eq_false_iff_ne, beq_iff_eq, ne_eq, bne_iff_ne, bne_eq_false_iff_eq, decide_eq_true_eq, decide_eq_false_iff_not, Bool.not_true, Bool.not_false, Int.not_le, Int.not_lt] at hc2)) | (with_reducible refine dop_buildSlice ?_) | (with_reducible refine dop_build ?_) | ((with_reducible refine Cr.call (f := 118) (play_ok _ _ _ _ _ _ _ _ _ _ _ _ _ _ _ _ _ _ _ _ _ hp hl hr hc hp' hl' hr' hc' hlo hhi) ?_)) | (with_reducible refine CallV.of (f := 118) (play_ok _ _ _ _ _ _ _ _ _ _ _ _ _ _ _ _ _ _ _ _ _ hp hl hr hc hp' hl' hr' hc' hlo hhi) ni118 ?_) | ((with_reducible refine Cr.call (f := 119) (agrees_ok _ _ _ _ _ _ _ _ _ _ _ _ _ _ _ _ _ _ _) ?_)) | (with_reducible refine CallV.of (f := 119) (agrees_ok _ _ _ _ _ _ _ _ _ _ _ _ _ _ _ _ _ _ _) ni119 ?_) | ((with_reducible refine GuardD.split (fun hc => ?_) (fun hc => ?_)) <;> (have hc2 := hc; try simp only [beq_eq_false_iff_ne, beq_iff_eq, ne_eq, bne_iff_ne, bne_eq_false_iff_eq, decide_eq_true_eq, decide_eq_false_iff_not, Bool.not_true, Bool.not_false, Int.not_le, Int.not_lt] at hc2)) | (with_reducible refine stp_build ?_) | (with_reducible refine stp_buildSlice ?_) | (with_reducible refine stp_store ?_) | (with_reducible refine stp_ns ?_) | (with_reducible refine NsB.intro (fun h' ho K' hk => by simp -implicitDefEqProofs (maxSteps := 1000000) only [go_sem, seval, *] <;> exact hk) ?_) | (with_reducible refine WrB.intro _ (by simp -implicitDefEqProofs (maxSteps := 1000000) only [go_sem, seval, *]) (fun h' ho K' hk => by simp -implicitDefEqProofs (maxSteps := 1000000) only [go_sem, seval, *]; exact hk) (fun h' ho K' hk => by simp -implicitDefEqProofs (maxSteps := 1000000) only [go_sem, seval, *] at hk; exact hk) (fun h' ho hk => by simp -implicitDefEqProofs (maxSteps := 1000000) only [go_sem, seval, *] at hk <;> with_unfolding_all exact False.elim hk) ?_) | (with_reducible refine WrB.intro _ (by simp -implicitDefEqProofs (maxSteps := 1000000) only [go_sem, seval, *]) (fun h' ho K' hk => by simp -implicitDefEqProofs (maxSteps := 1000000) only [go_sem, seval, *]; exact hk) ?_) | ((with_reducible refine DDraw.auto mo ?_ ?_); kernel_rfl)) <;> simp -implicitDefEqProofs (maxSteps := 1000000) only [go_sem, seval, *]) | (with_reducible refine bi_same ?_))
  · rw [turnsV, if_pos hc2]
  · have h1 : ¬ playV p l r c p' l' r' c' lo hi < 0 := by omega
    rw [turnsV, if_neg h1, if_pos hc2]
  · have h1 : ¬ playV p l r c p' l' r' c' lo hi < 0 := by omega
    have h2 : 1 ≤ driftV p p' := by unfold driftV at hc2 ⊢; omega
    have h3 := hb.out
    have h4 : 0 ≤ playV p l r c p' l' r' c' lo hi / driftV p p' := Int.ediv_nonneg (by omega) (by omega)
    have h5 : playV p l r c p' l' r' c' lo hi / driftV p p' ≤ playV p l r c p' l' r' c' lo hi := Int.ediv_le_self _ (by omega)
    rw [turnsV, if_neg h1, if_neg hc2, IntWalk.i64_quo _ _ (by omega), IntWalk.i64_in _ (by omega)]

end Go.Proofs.Ytdhdfdaclbfkiaa
