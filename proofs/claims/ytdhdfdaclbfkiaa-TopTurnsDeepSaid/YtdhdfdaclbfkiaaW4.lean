/-
  Walks. Conditions: none.
-/
import Derived.Test.YtdhdfdaclbfkiaaW3
set_option linter.unusedVariables false
set_option linter.unusedSimpArgs false
namespace Go.Proofs.Ytdhdfdaclbfkiaa
open Go.RowKit Go.SL
set_option maxHeartbeats 1000000
set_option maxRecDepth 1000000
/-- By how much the flanks of two forms come nearer, at the most, over a depth. -/
def wideV (l r l' r' lo hi : Int) : Int := max (lo * (l' - l)) (hi * (l' - l)) + max (lo * (r' - r)) (hi * (r' - r))
def roomV (l r l' r' lo hi : Int) : Int := if wideV l r l' r' lo hi ≤ 0 then 0 else if l + r = 0 then 0 else (wideV l r l' r' lo hi + (l + r) - 1) / (l + r)
def roomE (l r l' r' lo hi : Int) : Int := if wideV l r l' r' lo hi ≤ 0 then 0 else if l + r = 0 then 7 else 0
theorem wide_bd (l r l' r' lo hi : Int) (hl : 0 ≤ l ∧ l ≤ 3000) (hr : 0 ≤ r ∧ r ≤ 3000) (hl' : 0 ≤ l' ∧ l' ≤ 3000) (hr' : 0 ≤ r' ∧ r' ≤ 3000) (h1 : -200000 ≤ lo ∧ lo ≤ 200000) (h2 : -200000 ≤ hi ∧ hi ≤ 200000) :
    -1200000000 ≤ wideV l r l' r' lo hi ∧ wideV l r l' r' lo hi ≤ 1200000000 ∧ -600000000 ≤ max (lo * (l' - l)) (hi * (l' - l)) ∧ max (lo * (l' - l)) (hi * (l' - l)) ≤ 600000000 ∧ -600000000 ≤ max (lo * (r' - r)) (hi * (r' - r)) ∧ max (lo * (r' - r)) (hi * (r' - r)) ≤ 600000000 := by
  have m1 := mul_bd (a := lo) (b := l' - l) (A := 200000) (B := 3000) (by omega) (by omega) (by omega) (by omega)
  have m2 := mul_bd (a := hi) (b := l' - l) (A := 200000) (B := 3000) (by omega) (by omega) (by omega) (by omega)
  have m3 := mul_bd (a := lo) (b := r' - r) (A := 200000) (B := 3000) (by omega) (by omega) (by omega) (by omega)
  have m4 := mul_bd (a := hi) (b := r' - r) (A := 200000) (B := 3000) (by omega) (by omega) (by omega) (by omega)
  unfold wideV
  omega
theorem room_ok (ro : Addr → Option Value) (p l r a b s : Int) (lh : Bool) (t : Int) (l' r' a' b' : Int) (lo hi : Int) (hv : FormOk p l r a b s t) (hv' : FormOk p l' r' a' b' s t) (h1 : -200000 ≤ lo ∧ lo ≤ 200000) (h2 : -200000 ≤ hi ∧ hi ≤ 200000) (h3 : lo ≤ hi) :
    Cr Try.prog 22 #[.agg #[.int .i64 p, .int .i64 l, .int .i64 r, .int .i64 a, .int .i64 b, .int .i64 s, .bool lh, .int .i64 t], .agg #[.int .i64 p, .int .i64 l', .int .i64 r', .int .i64 a', .int .i64 b', .int .i64 s, .bool lh, .int .i64 t], .agg #[.int .i64 lo, .int .i64 hi]] ro
      (.tuple #[.int .i64 (roomV l r l' r' lo hi), .int .i64 (roomE l r l' r' lo hi)]) := by
  have hwb := Hold.mk (wide_bd l r l' r' lo hi hv.hl hv.hr hv'.hl hv'.hr h1 h2)
  have hl := Hold.mk hv.hl
  have hr := Hold.mk hv.hr
  have hl' := Hold.mk hv'.hl
  have hr' := Hold.mk hv'.hr
  have e1 : IntKind.i64.wrap (l' - l) = l' - l := IntWalk.i64_in _ (by have := hl.out; have := hl'.out; omega)
  have e2 : IntKind.i64.wrap (r' - r) = r' - r := IntWalk.i64_in _ (by have := hr.out; have := hr'.out; omega)
  have e3 : IntKind.i64.wrap (max (lo * (l' - l)) (hi * (l' - l)) + max (lo * (r' - r)) (hi * (r' - r))) = wideV l r l' r' lo hi := by
    rw [IntWalk.i64_in _ (by have := hwb.out; omega)]; rfl
  have e4 : IntKind.i64.wrap (IntKind.i64.wrap (wideV l r l' r' lo hi + (l + r)) - 1) = wideV l r l' r' lo hi + (l + r) - 1 := by
    have := hwb.out; have := hl.out; have := hr.out
    rw [IntWalk.i64_in (wideV l r l' r' lo hi + (l + r)) (by omega), IntWalk.i64_in _ (by omega)]
  have q0 := Hold.mk h1
  have q1 := Hold.mk h2
  have q2 : Hold (-200000 ≤ l' - l ∧ l' - l ≤ 200000) := ⟨by have := hl.out; have := hl'.out; omega⟩
  have q3 : Hold (-200000 ≤ r' - r ∧ r' - r ≤ 200000) := ⟨by have := hr.out; have := hr'.out; omega⟩
  obtain ⟨d1, d2⟩ := h1
  obtain ⟨d3, d4⟩ := h2
  have hv := Hold.mk hv
  have hv' := Hold.mk hv'
  (refine Cr.of Try.func22 rfl rfl (fun F hF => ?_); simp only [Try.ntmps22, Try.results22, List.size_toArray, List.length_cons, List.length_nil, Nat.reduceAdd, Nat.reduceSub, Array.replicate_succ, Array.replicate_zero, List.push_toArray, List.append_toArray, List.nil_append, List.cons_append]; simp -implicitDefEqProofs (maxSteps := 1000000) only [go_sem, seval])
  subst hF
  repeat' (first | ((first | ((with_reducible refine NewK.intro fun g hg hn => ?_) <;> try simp only [own_none_iff] at hn) | ((with_reducible refine GuardB.split (fun hc => ?_) (fun hc => ?_)) <;> (have hc2 := hc; try simp only [beq_eq_false_iff_ne, beq_iff_eq, ne_eq, bne_iff_ne, bne_eq_false_iff_eq, decide_eq_true_eq, decide_eq_false_iff_not, Bool.not_true, Bool.not_false, Int.not_le, Int.not_lt] at hc2)) | ((with_reducible refine CondK.split (fun hc => ?_) (fun hc => ?_)) <;> (have hc2 := hc; try simp only [beq_eq_false_iff_ne, beq_iff_eq, ne_eq, bne_iff_ne, bne_eq_false_iff_eq, decide_eq_true_eq, decide_eq_false_iff_not, Bool.not_true, Bool.not_false, Int.not_le, Int.not_lt] at hc2)) | ((with_reducible refine PickK.split (fun hc => ?_) (fun hc => ?_)) <;> (have hc2 := hc; try simp only [beq_eq_false_iff_ne, beq_iff_eq, ne_eq, bne_iff_ne, bne_eq_false_iff_eq, decide_eq_true_eq, decide_eq_false_iff_not, Bool.not_true, Bool.not_false, Int.not_le, Int.not_lt] at hc2)) | (with_reducible refine dop_buildSlice ?_) | (with_reducible refine dop_build ?_) | ((with_reducible refine Cr.call (f := 59) (open_ok _ _ _ _ _ _ _ _ _ hv.out) ?_)) | (with_reducible refine CallV.of (f := 59) (open_ok _ _ _ _ _ _ _ _ _ hv.out) ni59 ?_) | ((with_reducible refine Cr.call (f := 64) (check_ok _ _ _ _ _ _ _ _ _ hv'.out) ?_)) | (with_reducible refine CallV.of (f := 64) (check_ok _ _ _ _ _ _ _ _ _ hv'.out) ni64 ?_) | ((with_reducible refine Cr.call (f := 65) (isMate_ok _ _ _ _ _ _ _ _ _ _ _ _ _ _ _ _ _) ?_)) | (with_reducible refine CallV.of (f := 65) (isMate_ok _ _ _ _ _ _ _ _ _ _ _ _ _ _ _ _ _) ni65 ?_) | ((with_reducible refine Cr.call (f := 66) (isSpan_ok _ _ _ _ _) ?_)) | (with_reducible refine CallV.of (f := 66) (isSpan_ok _ _ _ _ _) ni66 ?_) | ((with_reducible refine Cr.call (f := 67) (most_ok _ _ _ _ q0 q1 (by first | exact q2 | exact q3)) ?_)) | (with_reducible refine CallV.of (f := 67) (most_ok _ _ _ _ q0 q1 (by first | exact q2 | exact q3)) ni67 ?_) | ((with_reducible refine Cr.call (f := 68) (leans_ok _ _ _ _ _ _ _ _ _ hl hr) ?_)) | (with_reducible refine CallV.of (f := 68) (leans_ok _ _ _ _ _ _ _ _ _ hl hr) ni68 ?_) | ((with_reducible refine GuardD.split (fun hc => ?_) (fun hc => ?_)) <;> (have hc2 := hc; try simp only [beq_eq_false_iff_ne, beq_iff_eq, ne_eq, bne_iff_ne, bne_eq_false_iff_eq, decide_eq_true_eq, decide_eq_false_iff_not, Bool.not_true, Bool.not_false, Int.not_le, Int.not_lt] at hc2)) | (with_reducible refine stp_build ?_) | (with_reducible refine stp_buildSlice ?_) | (with_reducible refine stp_store ?_) | (with_reducible refine stp_ns ?_) | (with_reducible refine NsB.intro (fun h' ho K' hk => by simp -implicitDefEqProofs (maxSteps := 1000000) only [go_sem, seval, *] <;> exact hk) ?_) | (with_reducible refine WrB.intro _ (by simp -implicitDefEqProofs (maxSteps := 1000000) only [go_sem, seval, *]) (fun h' ho K' hk => by simp -implicitDefEqProofs (maxSteps := 1000000) only [go_sem, seval, *]; exact hk) (fun h' ho K' hk => by simp -implicitDefEqProofs (maxSteps := 1000000) only [go_sem, seval, *] at hk; exact hk) (fun h' ho hk => by simp -implicitDefEqProofs (maxSteps := 1000000) only [go_sem, seval, *] at hk <;> with_unfolding_all exact False.elim hk) ?_) | (with_reducible refine WrB.intro _ (by simp -implicitDefEqProofs (maxSteps := 1000000) only [go_sem, seval, *]) (fun h' ho K' hk => by simp -implicitDefEqProofs (maxSteps := 1000000) only [go_sem, seval, *]; exact hk) ?_) | ((with_reducible refine DDraw.auto mo ?_ ?_); kernel_rfl)) <;> simp -implicitDefEqProofs (maxSteps := 1000000) only [go_sem, seval, *]) | (with_reducible refine bi_same ?_))
  · have hw : wideV l r l' r' lo hi ≤ 0 := by simpa using hc
    simp [roomV, roomE, hw]
  · have hw : ¬ wideV l r l' r' lo hi ≤ 0 := by omega
    have hz : l + r = 0 := by simpa using hc
    simp [roomV, roomE, hw, hz]
  · have hw : ¬ wideV l r l' r' lo hi ≤ 0 := by omega
    have hz : ¬ l + r = 0 := by simpa using hc
    have g1 := hwb.out
    have g2 := hl.out
    have g3 := hr.out
    have hd : IntKind.i64.wrap ((wideV l r l' r' lo hi + (l + r) - 1).tdiv (l + r)) = (wideV l r l' r' lo hi + (l + r) - 1) / (l + r) := IntWalk.i64_quo _ _ (by omega)
    simp only [roomV, roomE, hw, hz, if_false, hd]

end Go.Proofs.Ytdhdfdaclbfkiaa
