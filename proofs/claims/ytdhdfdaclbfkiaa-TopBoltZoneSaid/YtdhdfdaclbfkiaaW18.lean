/-
  Walks. Conditions: none.
-/
import Derived.Test.YtdhdfdaclbfkiaaW17
set_option linter.unusedVariables false
set_option linter.unusedSimpArgs false
namespace Go.Proofs.Ytdhdfdaclbfkiaa
open Go.RowKit Go.SL
set_option maxHeartbeats 1000000
set_option maxRecDepth 1000000
attribute [local go_sem] i64w
attribute [local go_sem] dwp_eqGuardE dwp_eqGuardN rval_eqGuardE rval_eqGuardN
theorem down_eq (a b : Int) (h : 0 < b) : (if a.tmod b < 0 then a.tdiv b - 1 else a.tdiv b) = a / b := by
  have h1 := Int.emod_nonneg a (show b ≠ 0 by omega)
  have h2 := Int.emod_lt_of_pos a h
  have h3 : Int.sign b = 1 := Int.sign_eq_one_of_pos h
  rw [Int.tdiv_eq_ediv, Int.tmod_eq_emod, h3]
  split <;> split <;> omega
def ceilV (n b : Int) : Int := -(-n / b)
theorem down_ok (ro : Addr → Option Value) (n b : Int) (hn : -1000000000000000000 ≤ n ∧ n ≤ 1000000000000000000) (hb : 1 ≤ b ∧ b ≤ 1000000000000) :
    Cr Try.prog 97 #[.int .i64 n, .int .i64 b] ro (.int .i64 (n / b)) := by
  have d := down_eq n b (by omega)
  have t := tdiv_bd (a := n) (g := b) (B := 1000000000000000000) (by omega) (by omega) (by omega)
  have e1 : IntKind.i64.wrap (n.tdiv b) = n.tdiv b := IntWalk.i64_in _ (by omega)
  have e2 : IntKind.i64.wrap (n.tdiv b - 1) = n.tdiv b - 1 := IntWalk.i64_in _ (by omega)
  have n1 : (b == 0) = false := by simp; omega
  have n2 : (b = 0) = False := by simp; omega
  replace d := Hold.mk d
  clear t hn hb
  (refine Cr.of Try.func97 rfl rfl (fun F hF => ?_); simp only [Try.ntmps97, Try.results97, List.size_toArray, List.length_cons, List.length_nil, Nat.reduceAdd, Nat.reduceSub, Array.replicate_succ, Array.replicate_zero, List.push_toArray, List.append_toArray, List.nil_append, List.cons_append]; simp -implicitDefEqProofs (maxSteps := 1000000) only [go_sem, seval])
  subst hF
  try simp -implicitDefEqProofs (maxSteps := 1000000) only [go_sem, seval, *]
  repeat' (first | ((first | ((with_reducible refine NewK.intro fun g hg hn => ?_) <;> try simp only [own_none_iff] at hn) | ((with_reducible refine GuardB.split (fun hc => ?_) (fun hc => ?_)) <;> (have hc2 := hc; try simp only [beq_eq_false_iff_ne, beq_iff_eq, ne_eq, bne_iff_ne, bne_eq_false_iff_eq, decide_eq_true_eq, decide_eq_false_iff_not, Bool.not_true, Bool.not_false, Int.not_le, Int.not_lt] at hc2)) | ((with_reducible refine CondK.split (fun hc => ?_) (fun hc => ?_)) <;> (have hc2 := hc; try simp only [beq_eq_false_iff_ne, beq_iff_eq, ne_eq, bne_iff_ne, bne_eq_false_iff_eq, decide_eq_true_eq, decide_eq_false_iff_not, Bool.not_true, Bool.not_false, Int.not_le, Int.not_lt] at hc2)) | ((with_reducible refine PickK.split (fun hc => ?_) (fun hc => ?_)) <;> (have hc2 := hc; try simp only [beq_eq_false_iff_ne, beq_iff_eq, ne_eq, bne_iff_ne, bne_eq_false_iff_eq, decide_eq_true_eq, decide_eq_false_iff_not, Bool.not_true, Bool.not_false, Int.not_le, Int.not_lt] at hc2)) | (with_reducible refine dop_buildSlice ?_) | (with_reducible refine dop_build ?_) | ((with_reducible refine GuardD.split (fun hc => ?_) (fun hc => ?_)) <;> (have hc2 := hc; try simp only [beq_eq_false_iff_ne, beq_iff_eq, ne_eq, bne_iff_ne, bne_eq_false_iff_eq, decide_eq_true_eq, decide_eq_false_iff_not, Bool.not_true, Bool.not_false, Int.not_le, Int.not_lt] at hc2)) | (with_reducible refine stp_build ?_) | (with_reducible refine stp_buildSlice ?_) | (with_reducible refine stp_store ?_) | (with_reducible refine stp_ns ?_) | (with_reducible refine NsB.intro (fun h' ho K' hk => by simp -implicitDefEqProofs (maxSteps := 1000000) only [go_sem, seval, *] <;> exact hk) ?_) | (with_reducible refine WrB.intro _ (by simp -implicitDefEqProofs (maxSteps := 1000000) only [go_sem, seval, *]) (fun h' ho K' hk => by simp -implicitDefEqProofs (maxSteps := 1000000) only [go_sem, seval, *]; exact hk) ?_) | ((with_reducible refine DDraw.auto mo ?_ ?_); kernel_rfl)) <;> simp -implicitDefEqProofs (maxSteps := 1000000) only [go_sem, seval, *]) | (with_reducible refine bi_same ?_))
  · rw [← d.out, if_pos hc2]
  · rw [← d.out, if_neg (by omega)]
theorem ediv_bd (n b B : Int) (hb : 1 ≤ b) (h1 : -B ≤ n) (h2 : n ≤ B) : -B ≤ n / b ∧ n / b ≤ B := by
  constructor
  · refine Int.le_ediv_of_mul_le (by omega) ?_
    have : -B * b ≤ -B * 1 := Int.mul_le_mul_of_nonpos_left (by omega) (by omega)
    omega
  · refine Int.ediv_le_of_le_mul (by omega) ?_
    have : B * 1 ≤ B * b := Int.mul_le_mul_of_nonneg_left hb (by omega)
    omega
theorem up_ok (ro : Addr → Option Value) (n b : Int) (hn : -1000000000000000000 ≤ n ∧ n ≤ 1000000000000000000) (hb : 1 ≤ b ∧ b ≤ 1000000000000) :
    Cr Try.prog 53 #[.int .i64 n, .int .i64 b] ro (.int .i64 (ceilV n b)) := by
  have t := ediv_bd (-n) b 1000000000000000000 (by omega) (by omega) (by omega)
  have e1 : IntKind.i64.wrap (0 - n) = -n := by rw [Int.zero_sub]; exact IntWalk.i64_in _ (by omega)
  have e2 : IntKind.i64.wrap (0 - -n / b) = ceilV n b := by rw [Int.zero_sub]; exact IntWalk.i64_in _ (by omega)
  have q1 : Hold (-1000000000000000000 ≤ -n ∧ -n ≤ 1000000000000000000) := ⟨by omega⟩
  replace hb := Hold.mk hb
  clear t hn
  (refine Cr.of Try.func53 rfl rfl (fun F hF => ?_); simp only [Try.ntmps53, Try.results53, List.size_toArray, List.length_cons, List.length_nil, Nat.reduceAdd, Nat.reduceSub, Array.replicate_succ, Array.replicate_zero, List.push_toArray, List.append_toArray, List.nil_append, List.cons_append]; simp -implicitDefEqProofs (maxSteps := 1000000) only [go_sem, seval])
  subst hF
  try simp -implicitDefEqProofs (maxSteps := 1000000) only [go_sem, seval, *]
  repeat' (first | ((first | ((with_reducible refine NewK.intro fun g hg hn => ?_) <;> try simp only [own_none_iff] at hn) | ((with_reducible refine GuardB.split (fun hc => ?_) (fun hc => ?_)) <;> (have hc2 := hc; try simp only [beq_eq_false_iff_ne, beq_iff_eq, ne_eq, bne_iff_ne, bne_eq_false_iff_eq, decide_eq_true_eq, decide_eq_false_iff_not, Bool.not_true, Bool.not_false, Int.not_le, Int.not_lt] at hc2)) | ((with_reducible refine CondK.split (fun hc => ?_) (fun hc => ?_)) <;> (have hc2 := hc; try simp only [beq_eq_false_iff_ne, beq_iff_eq, ne_eq, bne_iff_ne, bne_eq_false_iff_eq, decide_eq_true_eq, decide_eq_false_iff_not, Bool.not_true, Bool.not_false, Int.not_le, Int.not_lt] at hc2)) | ((with_reducible refine PickK.split (fun hc => ?_) (fun hc => ?_)) <;> (have hc2 := hc; try simp only [beq_eq_false_iff_ne, beq_iff_eq, ne_eq, bne_iff_ne, bne_eq_false_iff_eq, decide_eq_true_eq, decide_eq_false_iff_not, Bool.not_true, Bool.not_false, Int.not_le, Int.not_lt] at hc2)) | (with_reducible refine dop_buildSlice ?_) | (with_reducible refine dop_build ?_) | ((with_reducible refine Cr.call (f := 97) (down_ok _ _ _ q1.out hb.out) ?_)) | (with_reducible refine CallV.of (f := 97) (down_ok _ _ _ q1.out hb.out) ni97 ?_) | ((with_reducible refine GuardD.split (fun hc => ?_) (fun hc => ?_)) <;> (have hc2 := hc; try simp only [beq_eq_false_iff_ne, beq_iff_eq, ne_eq, bne_iff_ne, bne_eq_false_iff_eq, decide_eq_true_eq, decide_eq_false_iff_not, Bool.not_true, Bool.not_false, Int.not_le, Int.not_lt] at hc2)) | (with_reducible refine stp_build ?_) | (with_reducible refine stp_buildSlice ?_) | (with_reducible refine stp_store ?_) | (with_reducible refine stp_ns ?_) | (with_reducible refine NsB.intro (fun h' ho K' hk => by simp -implicitDefEqProofs (maxSteps := 1000000) only [go_sem, seval, *] <;> exact hk) ?_) | (with_reducible refine WrB.intro _ (by simp -implicitDefEqProofs (maxSteps := 1000000) only [go_sem, seval, *]) (fun h' ho K' hk => by simp -implicitDefEqProofs (maxSteps := 1000000) only [go_sem, seval, *]; exact hk) ?_) | ((with_reducible refine DDraw.auto mo ?_ ?_); kernel_rfl)) <;> simp -implicitDefEqProofs (maxSteps := 1000000) only [go_sem, seval, *]) | (with_reducible refine bi_same ?_))
theorem kwithin_ok (ro : Addr → Option Value) (ld th hd ot0 ot1 oh0 oh1 st0 st1 sp0 sp1 yi0 yi1 : Int) (w0 w1 : Int) :
    Cr Try.prog 51 #[.agg #[.int .i64 ld, .int .i64 th, .int .i64 hd, .int .i64 ot0, .int .i64 ot1, .int .i64 oh0, .int .i64 oh1, .int .i64 st0, .int .i64 st1, .int .i64 sp0, .int .i64 sp1, .int .i64 yi0, .int .i64 yi1], .agg #[.int .i64 w0, .int .i64 w1]] ro (.agg #[.int .i64 w0, .int .i64 (min w1 yi0)]) := by
  (refine Cr.of Try.func51 rfl rfl (fun F hF => ?_); simp only [Try.ntmps51, Try.results51, List.size_toArray, List.length_cons, List.length_nil, Nat.reduceAdd, Nat.reduceSub, Array.replicate_succ, Array.replicate_zero, List.push_toArray, List.append_toArray, List.nil_append, List.cons_append]; simp -implicitDefEqProofs (maxSteps := 1000000) only [go_sem, seval])
  subst hF
  try simp -implicitDefEqProofs (maxSteps := 1000000) only [go_sem, seval, *]
  repeat' (first | ((first | ((with_reducible refine NewK.intro fun g hg hn => ?_) <;> try simp only [own_none_iff] at hn) | ((with_reducible refine GuardB.split (fun hc => ?_) (fun hc => ?_)) <;> (have hc2 := hc; try simp only [beq_eq_false_iff_ne, beq_iff_eq, ne_eq, bne_iff_ne, bne_eq_false_iff_eq, decide_eq_true_eq, decide_eq_false_iff_not, Bool.not_true, Bool.not_false, Int.not_le, Int.not_lt] at hc2)) | ((with_reducible refine CondK.split (fun hc => ?_) (fun hc => ?_)) <;> (have hc2 := hc; try simp only [beq_eq_false_iff_ne, beq_iff_eq, ne_eq, bne_iff_ne, bne_eq_false_iff_eq, decide_eq_true_eq, decide_eq_false_iff_not, Bool.not_true, Bool.not_false, Int.not_le, Int.not_lt] at hc2)) | ((with_reducible refine PickK.split (fun hc => ?_) (fun hc => ?_)) <;> (have hc2 := hc; try simp only [beq_eq_false_iff_ne, beq_iff_eq, ne_eq, bne_iff_ne, bne_eq_false_iff_eq, decide_eq_true_eq, decide_eq_false_iff_not, Bool.not_true, Bool.not_false, Int.not_le, Int.not_lt] at hc2)) | (with_reducible refine dop_buildSlice ?_) | (with_reducible refine dop_build ?_) | ((with_reducible refine GuardD.split (fun hc => ?_) (fun hc => ?_)) <;> (have hc2 := hc; try simp only [beq_eq_false_iff_ne, beq_iff_eq, ne_eq, bne_iff_ne, bne_eq_false_iff_eq, decide_eq_true_eq, decide_eq_false_iff_not, Bool.not_true, Bool.not_false, Int.not_le, Int.not_lt] at hc2)) | (with_reducible refine stp_build ?_) | (with_reducible refine stp_buildSlice ?_) | (with_reducible refine stp_store ?_) | (with_reducible refine stp_ns ?_) | (with_reducible refine NsB.intro (fun h' ho K' hk => by simp -implicitDefEqProofs (maxSteps := 1000000) only [go_sem, seval, *] <;> exact hk) ?_) | (with_reducible refine WrB.intro _ (by simp -implicitDefEqProofs (maxSteps := 1000000) only [go_sem, seval, *]) (fun h' ho K' hk => by simp -implicitDefEqProofs (maxSteps := 1000000) only [go_sem, seval, *]; exact hk) ?_) | ((with_reducible refine DDraw.auto mo ?_ ?_); kernel_rfl)) <;> simp -implicitDefEqProofs (maxSteps := 1000000) only [go_sem, seval, *]) | (with_reducible refine bi_same ?_))
def rLo (L x0 : Int) : Int := if 0 < L then max 0 (L - x0) else 0
def rHi (M x1 : Int) : Int := min 10000000000000 (M - x1)
def rA (L M x0 x1 : Int) : Int := if rHi M x1 < rLo L x0 then 0 else rLo L x0
def rB (L M x0 x1 : Int) : Int := if rHi M x1 < rLo L x0 then 0 else rHi M x1
def rE (L M x0 x1 : Int) : Int := if rHi M x1 < rLo L x0 then 9 else 0
/-- The least torque, and the greatest one. -/
def leastV (ld th hd ot1 oh1 w0 : Int) : Int := ceilV (w0 * armV ld th hd ot1 oh1) 1000
def mostV (ld th hd ot0 oh0 w1 yi0 : Int) : Int := ceilV ((min w1 yi0 + 1) * armV ld th hd ot0 oh0) 1000 - 1
theorem indexWay0_ok (ro : Addr → Option Value) : Cr Try.prog 128 #[.slice none 0 0, .func (.func 92) #[] #[]] ro (.int .i64 (-1)) := by
  (refine Cr.of Try.func128 rfl rfl (fun F hF => ?_); simp only [Try.ntmps128, Try.results128, List.size_toArray, List.length_cons, List.length_nil, Nat.reduceAdd, Nat.reduceSub, Array.replicate_succ, Array.replicate_zero, List.push_toArray, List.append_toArray, List.nil_append, List.cons_append]; simp -implicitDefEqProofs (maxSteps := 1000000) only [go_sem, seval])
  subst hF
  repeat' (first | ((first | (with_reducible refine DLoop.rounds 2 ?_) | ((with_reducible refine NewK.intro fun g hg hn => ?_) <;> try simp only [own_none_iff] at hn) | ((with_reducible refine GuardB.split (fun hc => ?_) (fun hc => ?_)) <;> (have hc2 := hc; try simp only [beq_eq_false_iff_ne, beq_iff_eq, ne_eq, bne_iff_ne, bne_eq_false_iff_eq, decide_eq_true_eq, decide_eq_false_iff_not, Bool.not_true, Bool.not_false, Int.not_le, Int.not_lt] at hc2)) | ((with_reducible refine CondK.split (fun hc => ?_) (fun hc => ?_)) <;> (have hc2 := hc; try simp only [beq_eq_false_iff_ne, beq_iff_eq, ne_eq, bne_iff_ne, bne_eq_false_iff_eq, decide_eq_true_eq, decide_eq_false_iff_not, Bool.not_true, Bool.not_false, Int.not_le, Int.not_lt] at hc2)) | ((with_reducible refine PickK.split (fun hc => ?_) (fun hc => ?_)) <;> (have hc2 := hc; try simp only [beq_eq_false_iff_ne, beq_iff_eq, ne_eq, bne_iff_ne, bne_eq_false_iff_eq, decide_eq_true_eq, decide_eq_false_iff_not, Bool.not_true, Bool.not_false, Int.not_le, Int.not_lt] at hc2)) | (with_reducible refine dop_buildSlice ?_) | (with_reducible refine dop_build ?_) | ((with_reducible refine GuardD.split (fun hc => ?_) (fun hc => ?_)) <;> (have hc2 := hc; try simp only [beq_eq_false_iff_ne, beq_iff_eq, ne_eq, bne_iff_ne, bne_eq_false_iff_eq, decide_eq_true_eq, decide_eq_false_iff_not, Bool.not_true, Bool.not_false, Int.not_le, Int.not_lt] at hc2)) | (with_reducible refine stp_build ?_) | (with_reducible refine stp_buildSlice ?_) | (with_reducible refine stp_store ?_) | (with_reducible refine stp_ns ?_) | (with_reducible refine NsB.intro (fun h' ho K' hk => by simp -implicitDefEqProofs (maxSteps := 1000000) only [go_sem, seval, *] <;> exact hk) ?_) | (with_reducible refine WrB.intro _ (by simp -implicitDefEqProofs (maxSteps := 1000000) only [go_sem, seval, *]) (fun h' ho K' hk => by simp -implicitDefEqProofs (maxSteps := 1000000) only [go_sem, seval, *]; exact hk) ?_) | ((with_reducible refine DDraw.auto mo ?_ ?_); kernel_rfl)) <;> simp -implicitDefEqProofs (maxSteps := 1000000) only [go_sem, seval, *]) | (with_reducible refine bi_same ?_))
theorem containsWay0_ok (ro : Addr → Option Value) : Cr Try.prog 91 #[.slice none 0 0, .func (.func 92) #[] #[]] ro (.bool false) := by
  (refine Cr.of Try.func91 rfl rfl (fun F hF => ?_); simp only [Try.ntmps91, Try.results91, List.size_toArray, List.length_cons, List.length_nil, Nat.reduceAdd, Nat.reduceSub, Array.replicate_succ, Array.replicate_zero, List.push_toArray, List.append_toArray, List.nil_append, List.cons_append]; simp -implicitDefEqProofs (maxSteps := 1000000) only [go_sem, seval])
  refine Cr.call (indexWay0_ok _) ?_
  simp -implicitDefEqProofs (maxSteps := 1000000) only [go_sem, seval]
  try rfl
theorem open0_ok (ro : Addr → Option Value) (ld th hd ot0 ot1 oh0 oh1 st0 st1 sp0 sp1 yi0 yi1 : Int) (hv : BoltOk ld th hd ot0 ot1 oh0 oh1 st0 st1 sp0 sp1 yi0 yi1) :
    Cr Try.prog 48 #[.agg #[.int .i64 ld, .int .i64 th, .int .i64 hd, .int .i64 ot0, .int .i64 ot1, .int .i64 oh0, .int .i64 oh1, .int .i64 st0, .int .i64 st1, .int .i64 sp0, .int .i64 sp1, .int .i64 yi0, .int .i64 yi1], .slice none 0 0] ro (.tuple #[.agg #[.int .i64 ld, .int .i64 th, .int .i64 hd, .int .i64 ot0, .int .i64 ot1, .int .i64 oh0, .int .i64 oh1, .int .i64 st0, .int .i64 st1, .int .i64 sp0, .int .i64 sp1, .int .i64 yi0, .int .i64 yi1], .int .i64 0]) := by
  replace hv := Hold.mk hv
  (refine Cr.of Try.func48 rfl rfl (fun F hF => ?_); simp only [Try.ntmps48, Try.results48, List.size_toArray, List.length_cons, List.length_nil, Nat.reduceAdd, Nat.reduceSub, Array.replicate_succ, Array.replicate_zero, List.push_toArray, List.append_toArray, List.nil_append, List.cons_append]; simp -implicitDefEqProofs (maxSteps := 1000000) only [go_sem, seval])
  subst hF
  try simp -implicitDefEqProofs (maxSteps := 1000000) only [go_sem, seval, *]
  repeat' (first | ((first | ((with_reducible refine NewK.intro fun g hg hn => ?_) <;> try simp only [own_none_iff] at hn) | ((with_reducible refine GuardB.split (fun hc => ?_) (fun hc => ?_)) <;> (have hc2 := hc; try simp only [beq_eq_false_iff_ne, beq_iff_eq, ne_eq, bne_iff_ne, bne_eq_false_iff_eq, decide_eq_true_eq, decide_eq_false_iff_not, Bool.not_true, Bool.not_false, Int.not_le, Int.not_lt] at hc2)) | ((with_reducible refine CondK.split (fun hc => ?_) (fun hc => ?_)) <;> (have hc2 := hc; try simp only [beq_eq_false_iff_ne, beq_iff_eq, ne_eq, bne_iff_ne, bne_eq_false_iff_eq, decide_eq_true_eq, decide_eq_false_iff_not, Bool.not_true, Bool.not_false, Int.not_le, Int.not_lt] at hc2)) | ((with_reducible refine PickK.split (fun hc => ?_) (fun hc => ?_)) <;> (have hc2 := hc; try simp only [beq_eq_false_iff_ne, beq_iff_eq, ne_eq, bne_iff_ne, bne_eq_false_iff_eq, decide_eq_true_eq, decide_eq_false_iff_not, Bool.not_true, Bool.not_false, Int.not_le, Int.not_lt] at hc2)) | (with_reducible refine dop_buildSlice ?_) | (with_reducible refine dop_build ?_) | ((with_reducible refine Cr.call (f := 90) (bcheck_ok _ _ _ _ _ _ _ _ _ _ _ _ _ _ hv.out) ?_)) | (with_reducible refine CallV.of (f := 90) (bcheck_ok _ _ _ _ _ _ _ _ _ _ _ _ _ _ hv.out) ni90 ?_) | ((with_reducible refine Cr.call (f := 91) (containsWay0_ok _) ?_)) | (with_reducible refine CallV.of (f := 91) (containsWay0_ok _) ni91 ?_) | ((with_reducible refine GuardD.split (fun hc => ?_) (fun hc => ?_)) <;> (have hc2 := hc; try simp only [beq_eq_false_iff_ne, beq_iff_eq, ne_eq, bne_iff_ne, bne_eq_false_iff_eq, decide_eq_true_eq, decide_eq_false_iff_not, Bool.not_true, Bool.not_false, Int.not_le, Int.not_lt] at hc2)) | (with_reducible refine stp_build ?_) | (with_reducible refine stp_buildSlice ?_) | (with_reducible refine stp_store ?_) | (with_reducible refine stp_ns ?_) | (with_reducible refine NsB.intro (fun h' ho K' hk => by simp -implicitDefEqProofs (maxSteps := 1000000) only [go_sem, seval, *] <;> exact hk) ?_) | (with_reducible refine WrB.intro _ (by simp -implicitDefEqProofs (maxSteps := 1000000) only [go_sem, seval, *]) (fun h' ho K' hk => by simp -implicitDefEqProofs (maxSteps := 1000000) only [go_sem, seval, *]; exact hk) ?_) | ((with_reducible refine DDraw.auto mo ?_ ?_); kernel_rfl)) <;> simp -implicitDefEqProofs (maxSteps := 1000000) only [go_sem, seval, *]) | (with_reducible refine bi_same ?_))
theorem Right_ok (ro : Addr → Option Value) (ld th hd ot0 ot1 oh0 oh1 st0 st1 sp0 sp1 yi0 yi1 : Int) (w0 w1 x0 x1 : Int) (hv : BoltOk ld th hd ot0 ot1 oh0 oh1 st0 st1 sp0 sp1 yi0 yi1) (hw : 0 ≤ w0 ∧ w0 ≤ w1 ∧ w1 ≤ 100000000) (hx : -10000000000000 ≤ x0 ∧ x0 ≤ x1 ∧ x1 ≤ 10000000000000) :
    Cr Try.prog 12 #[.agg #[.int .i64 ld, .int .i64 th, .int .i64 hd, .int .i64 ot0, .int .i64 ot1, .int .i64 oh0, .int .i64 oh1, .int .i64 st0, .int .i64 st1, .int .i64 sp0, .int .i64 sp1, .int .i64 yi0, .int .i64 yi1], .agg #[.int .i64 w0, .int .i64 w1], .agg #[.int .i64 x0, .int .i64 x1]] ro (.tuple #[.agg #[.int .i64 (rA (leastV ld th hd ot1 oh1 w0) (mostV ld th hd ot0 oh0 w1 yi0) x0 x1), .int .i64 (rB (leastV ld th hd ot1 oh1 w0) (mostV ld th hd ot0 oh0 w1 yi0) x0 x1)], .int .i64 (rE (leastV ld th hd ot1 oh1 w0) (mostV ld th hd ot0 oh0 w1 yi0) x0 x1)]) := by
  have ab := arm_bd ld th hd ot0 oh0 hv.hl hv.ht hv.hh (by have := hv.ho; omega) (by have := hv.hp; omega)
  have ac := arm_bd ld th hd ot1 oh1 hv.hl hv.ht hv.hh (by have := hv.ho; omega) (by have := hv.hp; omega)
  have yb := hv.hy
  have m1 := mul_bd (a := w0) (b := armV ld th hd ot1 oh1) (A := 100000000) (B := 300000000) (by omega) (by omega) (by omega) (by omega)
  have m2 := mul_bd (a := min w1 yi0 + 1) (b := armV ld th hd ot0 oh0) (A := 100000001) (B := 300000000) (by omega) (by omega) (by omega) (by omega)
  have e1 : IntKind.i64.wrap (w0 * armV ld th hd ot1 oh1) = w0 * armV ld th hd ot1 oh1 := IntWalk.i64_in _ (by omega)
  have e2 : IntKind.i64.wrap (min w1 yi0 + 1) = min w1 yi0 + 1 := IntWalk.i64_in _ (by omega)
  have e3 : IntKind.i64.wrap ((min w1 yi0 + 1) * armV ld th hd ot0 oh0) = (min w1 yi0 + 1) * armV ld th hd ot0 oh0 := IntWalk.i64_in _ (by omega)
  have q1 : Hold (-1000000000000000000 ≤ w0 * armV ld th hd ot1 oh1 ∧ w0 * armV ld th hd ot1 oh1 ≤ 1000000000000000000) := ⟨by omega⟩
  have q2 : Hold (-1000000000000000000 ≤ (min w1 yi0 + 1) * armV ld th hd ot0 oh0 ∧ (min w1 yi0 + 1) * armV ld th hd ot0 oh0 ≤ 1000000000000000000) := ⟨by omega⟩
  have g1 := ediv_bd (-(w0 * armV ld th hd ot1 oh1)) 1000 100000000000000000 (by omega) (by omega) (by omega)
  have g2 := ediv_bd (-((min w1 yi0 + 1) * armV ld th hd ot0 oh0)) 1000 100000000000000000 (by omega) (by omega) (by omega)
  have e4 : IntKind.i64.wrap (ceilV ((min w1 yi0 + 1) * armV ld th hd ot0 oh0) 1000 - 1) = mostV ld th hd ot0 oh0 w1 yi0 := IntWalk.i64_in _ (by unfold ceilV; omega)
  have e5 : ceilV (w0 * armV ld th hd ot1 oh1) 1000 = leastV ld th hd ot1 oh1 w0 := rfl
  have k1 : -100000000000000001 ≤ leastV ld th hd ot1 oh1 w0 ∧ leastV ld th hd ot1 oh1 w0 ≤ 100000000000000001 := by unfold leastV ceilV; omega
  have k2 : -100000000000000001 ≤ mostV ld th hd ot0 oh0 w1 yi0 ∧ mostV ld th hd ot0 oh0 w1 yi0 ≤ 100000000000000001 := by unfold mostV ceilV; omega
  generalize hL : leastV ld th hd ot1 oh1 w0 = L at e5 k1 ⊢
  generalize hM : mostV ld th hd ot0 oh0 w1 yi0 = M at e4 k2 ⊢
  have e6 : IntKind.i64.wrap (M - x1) = M - x1 := IntWalk.i64_in _ (by omega)
  have e7 : IntKind.i64.wrap (L - x0) = L - x0 := IntWalk.i64_in _ (by omega)
  have p1 : 0 ≤ w0 ∧ w0 ≤ w1 ∧ w1 ≤ 100000000 := hw
  obtain ⟨x1a, x1b, x1c⟩ := hx
  have x2a : x0 ≤ 10000000000000 := by omega
  have x2b : -10000000000000 ≤ x1 := by omega
  clear ab ac yb m1 m2 g1 g2 k1 k2 hL hM
  replace p1 := Hold.mk p1
  replace hv := Hold.mk hv
  clear hw
  (refine Cr.of Try.func12 rfl rfl (fun F hF => ?_); simp only [Try.ntmps12, Try.results12, List.size_toArray, List.length_cons, List.length_nil, Nat.reduceAdd, Nat.reduceSub, Array.replicate_succ, Array.replicate_zero, List.push_toArray, List.append_toArray, List.nil_append, List.cons_append]; simp -implicitDefEqProofs (maxSteps := 1000000) only [go_sem, seval])
  subst hF
  try simp -implicitDefEqProofs (maxSteps := 1000000) only [go_sem, seval, *]
  repeat' (first | ((first | ((with_reducible refine NewK.intro fun g hg hn => ?_) <;> try simp only [own_none_iff] at hn) | ((with_reducible refine GuardB.split (fun hc => ?_) (fun hc => ?_)) <;> (have hc2 := hc; try simp only [beq_eq_false_iff_ne, beq_iff_eq, ne_eq, bne_iff_ne, bne_eq_false_iff_eq, decide_eq_true_eq, decide_eq_false_iff_not, Bool.not_true, Bool.not_false, Int.not_le, Int.not_lt] at hc2)) | ((with_reducible refine CondK.split (fun hc => ?_) (fun hc => ?_)) <;> (have hc2 := hc; try simp only [beq_eq_false_iff_ne, beq_iff_eq, ne_eq, bne_iff_ne, bne_eq_false_iff_eq, decide_eq_true_eq, decide_eq_false_iff_not, Bool.not_true, Bool.not_false, Int.not_le, Int.not_lt] at hc2)) | ((with_reducible refine PickK.split (fun hc => ?_) (fun hc => ?_)) <;> (have hc2 := hc; try simp only [beq_eq_false_iff_ne, beq_iff_eq, ne_eq, bne_iff_ne, bne_eq_false_iff_eq, decide_eq_true_eq, decide_eq_false_iff_not, Bool.not_true, Bool.not_false, Int.not_le, Int.not_lt] at hc2)) | (with_reducible refine dop_buildSlice ?_) | (with_reducible refine dop_build ?_) | ((with_reducible refine Cr.call (f := 48) (open0_ok _ _ _ _ _ _ _ _ _ _ _ _ _ _ hv.out) ?_)) | (with_reducible refine CallV.of (f := 48) (open0_ok _ _ _ _ _ _ _ _ _ _ _ _ _ _ hv.out) ni48 ?_) | ((with_reducible refine Cr.call (f := 49) (isForce_ok _ _ _ p1.out) ?_)) | (with_reducible refine CallV.of (f := 49) (isForce_ok _ _ _ p1.out) ni49 ?_) | ((with_reducible refine Cr.call (f := 50) (bisSpan_ok _ _ _ _ _) ?_)) | (with_reducible refine CallV.of (f := 50) (bisSpan_ok _ _ _ _ _) ni50 ?_) | ((with_reducible refine Cr.call (f := 51) (kwithin_ok _ _ _ _ _ _ _ _ _ _ _ _ _ _ _ _) ?_)) | (with_reducible refine CallV.of (f := 51) (kwithin_ok _ _ _ _ _ _ _ _ _ _ _ _ _ _ _ _) ni51 ?_) | ((with_reducible refine Cr.call (f := 52) (arms_ok _ _ _ _ _ _ _ _ _ _ _ _ _ _ hv.out) ?_)) | (with_reducible refine CallV.of (f := 52) (arms_ok _ _ _ _ _ _ _ _ _ _ _ _ _ _ hv.out) ni52 ?_) | ((with_reducible refine Cr.call (f := 53) (up_ok _ _ _ q1.out (by decide)) ?_)) | (with_reducible refine CallV.of (f := 53) (up_ok _ _ _ q1.out (by decide)) ni53 ?_) | ((with_reducible refine Cr.call (f := 53) (up_ok _ _ _ q2.out (by decide)) ?_)) | (with_reducible refine CallV.of (f := 53) (up_ok _ _ _ q2.out (by decide)) ni53 ?_) | ((with_reducible refine DDraw.told (id := 7) [] [] mo ?_ ?_); kernel_rfl) | ((with_reducible refine GuardD.split (fun hc => ?_) (fun hc => ?_)) <;> (have hc2 := hc; try simp only [beq_eq_false_iff_ne, beq_iff_eq, ne_eq, bne_iff_ne, bne_eq_false_iff_eq, decide_eq_true_eq, decide_eq_false_iff_not, Bool.not_true, Bool.not_false, Int.not_le, Int.not_lt] at hc2)) | (with_reducible refine stp_build ?_) | (with_reducible refine stp_buildSlice ?_) | (with_reducible refine stp_store ?_) | (with_reducible refine stp_ns ?_) | (with_reducible refine NsB.intro (fun h' ho K' hk => by simp -implicitDefEqProofs (maxSteps := 1000000) only [go_sem, seval, *] <;> exact hk) ?_) | (with_reducible refine WrB.intro _ (by simp -implicitDefEqProofs (maxSteps := 1000000) only [go_sem, seval, *]) (fun h' ho K' hk => by simp -implicitDefEqProofs (maxSteps := 1000000) only [go_sem, seval, *]; exact hk) ?_) | ((with_reducible refine DDraw.auto mo ?_ ?_); kernel_rfl)) <;> simp -implicitDefEqProofs (maxSteps := 1000000) only [go_sem, seval, *]) | (with_reducible refine bi_same ?_))
  · have hlo : rLo L x0 = max 0 (L - x0) := by unfold rLo; rw [if_pos (by omega)]
    have h1 : rA L M x0 x1 = 0 ∧ rB L M x0 x1 = 0 ∧ rE L M x0 x1 = 9 := by
      unfold rA rB rE rHi
      rw [hlo]
      refine ⟨?_, ?_, ?_⟩ <;> (split <;> omega)
    rw [h1.1, h1.2.1, h1.2.2]
  · have hlo : rLo L x0 = max 0 (L - x0) := by unfold rLo; rw [if_pos (by omega)]
    have h1 : rA L M x0 x1 = max 0 (L - x0) ∧ rB L M x0 x1 = min 10000000000000 (M - x1) ∧ rE L M x0 x1 = 0 := by
      unfold rA rB rE rHi
      rw [hlo]
      refine ⟨?_, ?_, ?_⟩ <;> (split <;> omega)
    rw [h1.1, h1.2.1, h1.2.2]
  · have hlo : rLo L x0 = 0 := by unfold rLo; rw [if_neg (by omega)]
    have h1 : rA L M x0 x1 = 0 ∧ rB L M x0 x1 = 0 ∧ rE L M x0 x1 = 9 := by
      unfold rA rB rE rHi
      rw [hlo]
      refine ⟨?_, ?_, ?_⟩ <;> (split <;> omega)
    rw [h1.1, h1.2.1, h1.2.2]
  · have hlo : rLo L x0 = 0 := by unfold rLo; rw [if_neg (by omega)]
    have h1 : rA L M x0 x1 = 0 ∧ rB L M x0 x1 = min 10000000000000 (M - x1) ∧ rE L M x0 x1 = 0 := by
      unfold rA rB rE rHi
      rw [hlo]
      refine ⟨?_, ?_, ?_⟩ <;> (split <;> omega)
    rw [h1.1, h1.2.1, h1.2.2]


end Go.Proofs.Ytdhdfdaclbfkiaa
