/-
  Walks. Conditions: none.
-/
import Derived.Test.YtdhhaglaikdpbaaA1
set_option linter.unusedVariables false
set_option linter.unusedSimpArgs false
namespace Go.Proofs.Ytdhhaglaikdpbaa
open Go.RowKit Go.SL
set_option maxHeartbeats 1000000
set_option maxRecDepth 1000000
attribute [local go_sem] i64w
attribute [local go_sem] dwp_eqGuardE dwp_eqGuardN rval_eqGuardE rval_eqGuardN
theorem ixv100_0 {F : Fr} {h : Hp} {K : Value → Hp → Prop} {a b c d : Value} {k : IntKind} : dwp Try.prog F (Instr.index 100 (.agg #[a, b, c, d]) (.int k 0)) h K = K (.agg #[a, b]) h := by
  simp only [Instr.index, asIntOf, dwp_bind', dwp_pure', BindK_app, dwp_underlying, Try.underlying100, OptK_some]
  rw [if_pos (by decide)]
  simp only [part, dwp_bind', dwp_pure', BindK_app, sz23, ag23, if_true]
  rfl
theorem ixv100_1 {F : Fr} {h : Hp} {K : Value → Hp → Prop} {a b c d : Value} {k : IntKind} : dwp Try.prog F (Instr.index 100 (.agg #[a, b, c, d]) (.int k 1)) h K = K (.agg #[c, d]) h := by
  simp only [Instr.index, asIntOf, dwp_bind', dwp_pure', BindK_app, dwp_underlying, Try.underlying100, OptK_some]
  rw [if_pos (by decide)]
  simp only [part, dwp_bind', dwp_pure', BindK_app, sz23, ag23, if_true]
  rfl
attribute [local go_sem] ixv100_0 ixv100_1
theorem bwithin1_ok (ro : Addr → Option Value) (lo hi x : Int) (b1 b2 : Nat) (h1 : ro ⟨b1, 0, none⟩ = some (.int .i64 lo)) (h2 : ro ⟨b2, 0, none⟩ = some (.int .i64 hi)) :
    Cr Try.prog 74 #[.int .i64 x, .pointer (some ⟨b1, 0, none⟩), .pointer (some ⟨b2, 0, none⟩)] ro (.bool (decide (x < lo) || decide (hi < x))) := by
  subst_vars
  (refine Cr.of Try.func74 rfl rfl (fun F hF => ?_); simp only [Try.ntmps74, Try.results74, List.size_toArray, List.length_cons, List.length_nil, Nat.reduceAdd, Nat.reduceSub, Array.replicate_succ, Array.replicate_zero, List.push_toArray, List.append_toArray, List.nil_append, List.cons_append]; simp -implicitDefEqProofs (maxSteps := 1000000) only [go_sem, seval])
  subst hF
  simp -implicitDefEqProofs (maxSteps := 1000000) only [go_sem, seval, *]
  repeat' (first | ((first | ((with_reducible refine NewK.intro fun g hg hn => ?_) <;> try simp only [own_none_iff] at hn) | ((with_reducible refine GuardB.split (fun hc => ?_) (fun hc => ?_)) <;> (have hc2 := hc; try simp only [beq_eq_false_iff_ne, beq_iff_eq, ne_eq, bne_iff_ne, bne_eq_false_iff_eq, decide_eq_true_eq, decide_eq_false_iff_not, Bool.not_true, Bool.not_false, Int.not_le, Int.not_lt] at hc2)) | ((with_reducible refine CondK.split (fun hc => ?_) (fun hc => ?_)) <;> (have hc2 := hc; try simp only [beq_eq_false_iff_ne, beq_iff_eq, ne_eq, bne_iff_ne, bne_eq_false_iff_eq, decide_eq_true_eq, decide_eq_false_iff_not, Bool.not_true, Bool.not_false, Int.not_le, Int.not_lt] at hc2)) | ((with_reducible refine PickK.split (fun hc => ?_) (fun hc => ?_)) <;> (have hc2 := hc; try simp only [beq_eq_false_iff_ne, beq_iff_eq, ne_eq, bne_iff_ne, bne_eq_false_iff_eq, decide_eq_true_eq, decide_eq_false_iff_not, Bool.not_true, Bool.not_false, Int.not_le, Int.not_lt] at hc2)) | (with_reducible refine dop_buildSlice ?_) | (with_reducible refine dop_build ?_) | ((with_reducible refine GuardD.split (fun hc => ?_) (fun hc => ?_)) <;> (have hc2 := hc; try simp only [beq_eq_false_iff_ne, beq_iff_eq, ne_eq, bne_iff_ne, bne_eq_false_iff_eq, decide_eq_true_eq, decide_eq_false_iff_not, Bool.not_true, Bool.not_false, Int.not_le, Int.not_lt] at hc2)) | (with_reducible refine stp_build ?_) | (with_reducible refine stp_buildSlice ?_) | (with_reducible refine stp_store ?_) | (with_reducible refine stp_ns ?_) | (with_reducible refine NsB.intro (fun h' ho K' hk => by simp -implicitDefEqProofs (maxSteps := 1000000) only [go_sem, seval, *] <;> exact hk) ?_) | (with_reducible refine WrB.intro _ (by simp -implicitDefEqProofs (maxSteps := 1000000) only [go_sem, seval, *]) (fun h' ho K' hk => by simp -implicitDefEqProofs (maxSteps := 1000000) only [go_sem, seval, *]; exact hk) ?_) | ((with_reducible refine DDraw.auto mo ?_ ?_); kernel_rfl)) <;> simp -implicitDefEqProofs (maxSteps := 1000000) only [go_sem, seval, *]) | (with_reducible refine bi_same ?_))
  all_goals simp
theorem bwithin_ok (ro : Addr → Option Value) (lo hi : Int) (b off n c : Nat) (hs : (readI ro b off n).isSome = true) (hn : Hold (n < 2 ^ 63)) :
    Cr Try.prog 44 #[.int .i64 lo, .int .i64 hi, .slice (some ⟨b, off, none⟩) n c] ro (.bool (allO lo hi (readI ro b off n))) := by
  obtain ⟨xs, hx⟩ := Option.isSome_iff_exists.1 hs
  rw [hx, allO_some, ← allI_any]
  (refine Cr.of Try.func44 rfl rfl (fun F hF => ?_); simp only [Try.ntmps44, Try.results44, List.size_toArray, List.length_cons, List.length_nil, Nat.reduceAdd, Nat.reduceSub, Array.replicate_succ, Array.replicate_zero, List.push_toArray, List.append_toArray, List.nil_append, List.cons_append]; simp -implicitDefEqProofs (maxSteps := 1000000) only [go_sem, seval])
  subst hF
  refine NewK.intro fun g1 hg1 hn1 => ?_
  simp -implicitDefEqProofs (maxSteps := 1000000) only [go_sem, seval]
  refine NewK.intro fun g2 hg2 hn2 => ?_
  obtain ⟨hne1, hne2, hn3⟩ := own_set_none hn2
  simp -implicitDefEqProofs (maxSteps := 1000000) only [go_sem, seval]
  refine Cr.call (containsFunc_ok _ b off n c 74 _ (fun x => decide (x < lo) || decide (hi < x)) xs ⟨readI_mono (fun a u e => Hp.cell_ro e) hx⟩ hn (by unfold entB; rw [Try.func74]; rfl) (fun x => bwithin1_ok _ lo hi x g1 g2 ?_ ?_)) ?_
  · simp -implicitDefEqProofs (maxSteps := 1000000) only [go_sem, seval, *]
  · simp -implicitDefEqProofs (maxSteps := 1000000) only [go_sem, seval, *]
  · simp -implicitDefEqProofs (maxSteps := 1000000) only [go_sem, seval, *]
theorem bisSpan_ok (ro : Addr → Option Value) (lo hi x y : Int) :
    Cr Try.prog 45 #[.agg #[.int .i64 lo, .int .i64 hi], .int .i64 x, .int .i64 y] ro (.bool (decide (lo ≤ hi) && allI x y [lo, hi])) := by
  (refine Cr.of Try.func45 rfl rfl (fun F hF => ?_); simp only [Try.ntmps45, Try.results45, List.size_toArray, List.length_cons, List.length_nil, Nat.reduceAdd, Nat.reduceSub, Array.replicate_succ, Array.replicate_zero, List.push_toArray, List.append_toArray, List.nil_append, List.cons_append]; simp -implicitDefEqProofs (maxSteps := 1000000) only [go_sem, seval])
  subst hF
  try simp -implicitDefEqProofs (maxSteps := 1000000) only [go_sem, seval, *]
  repeat' (first | ((first | ((with_reducible refine NewK.intro fun g hg hn => ?_) <;> try simp only [own_none_iff] at hn) | ((with_reducible refine GuardB.split (fun hc => ?_) (fun hc => ?_)) <;> (have hc2 := hc; try simp only [beq_eq_false_iff_ne, beq_iff_eq, ne_eq, bne_iff_ne, bne_eq_false_iff_eq, decide_eq_true_eq, decide_eq_false_iff_not, Bool.not_true, Bool.not_false, Int.not_le, Int.not_lt] at hc2)) | ((with_reducible refine CondK.split (fun hc => ?_) (fun hc => ?_)) <;> (have hc2 := hc; try simp only [beq_eq_false_iff_ne, beq_iff_eq, ne_eq, bne_iff_ne, bne_eq_false_iff_eq, decide_eq_true_eq, decide_eq_false_iff_not, Bool.not_true, Bool.not_false, Int.not_le, Int.not_lt] at hc2)) | ((with_reducible refine PickK.split (fun hc => ?_) (fun hc => ?_)) <;> (have hc2 := hc; try simp only [beq_eq_false_iff_ne, beq_iff_eq, ne_eq, bne_iff_ne, bne_eq_false_iff_eq, decide_eq_true_eq, decide_eq_false_iff_not, Bool.not_true, Bool.not_false, Int.not_le, Int.not_lt] at hc2)) | (with_reducible refine dop_buildSlice ?_) | (with_reducible refine dop_build ?_) | ((with_reducible refine Cr.call (f := 44) (bwithin_ok _ _ _ _ _ _ _ (by simp -implicitDefEqProofs (maxSteps := 1000000) only [go_sem, seval, *]) ⟨by decide⟩) ?_)) | (with_reducible refine CallV.of (f := 44) (bwithin_ok _ _ _ _ _ _ _ (by simp -implicitDefEqProofs (maxSteps := 1000000) only [go_sem, seval, *]) ⟨by decide⟩) ni44 ?_) | ((with_reducible refine GuardD.split (fun hc => ?_) (fun hc => ?_)) <;> (have hc2 := hc; try simp only [beq_eq_false_iff_ne, beq_iff_eq, ne_eq, bne_iff_ne, bne_eq_false_iff_eq, decide_eq_true_eq, decide_eq_false_iff_not, Bool.not_true, Bool.not_false, Int.not_le, Int.not_lt] at hc2)) | (with_reducible refine stp_build ?_) | (with_reducible refine stp_buildSlice ?_) | (with_reducible refine stp_store ?_) | (with_reducible refine stp_ns ?_) | (with_reducible refine NsB.intro (fun h' ho K' hk => by simp -implicitDefEqProofs (maxSteps := 1000000) only [go_sem, seval, *] <;> exact hk) ?_) | (with_reducible refine WrB.intro _ (by simp -implicitDefEqProofs (maxSteps := 1000000) only [go_sem, seval, *]) (fun h' ho K' hk => by simp -implicitDefEqProofs (maxSteps := 1000000) only [go_sem, seval, *]; exact hk) ?_) | ((with_reducible refine DDraw.auto mo ?_ ?_); kernel_rfl)) <;> simp -implicitDefEqProofs (maxSteps := 1000000) only [go_sem, seval, *]) | (with_reducible refine bi_same ?_))
  all_goals simp_all [allI]
theorem isTorque_ok (ro : Addr → Option Value) (lo hi : Int) (h : 0 ≤ lo ∧ lo ≤ hi ∧ hi ≤ 10000000000000) :
    Cr Try.prog 62 #[.agg #[.int .i64 lo, .int .i64 hi]] ro (.bool true) := by
  obtain ⟨c1, c2, c3⟩ := h
  have c4 : lo ≤ 10000000000000 := by omega
  have c5 : 0 ≤ hi := by omega
  (refine Cr.of Try.func62 rfl rfl (fun F hF => ?_); simp only [Try.ntmps62, Try.results62, List.size_toArray, List.length_cons, List.length_nil, Nat.reduceAdd, Nat.reduceSub, Array.replicate_succ, Array.replicate_zero, List.push_toArray, List.append_toArray, List.nil_append, List.cons_append]; simp -implicitDefEqProofs (maxSteps := 1000000) only [go_sem, seval])
  subst hF
  try simp -implicitDefEqProofs (maxSteps := 1000000) only [go_sem, seval, *]
  repeat' (first | ((first | ((with_reducible refine NewK.intro fun g hg hn => ?_) <;> try simp only [own_none_iff] at hn) | ((with_reducible refine GuardB.split (fun hc => ?_) (fun hc => ?_)) <;> (have hc2 := hc; try simp only [beq_eq_false_iff_ne, beq_iff_eq, ne_eq, bne_iff_ne, bne_eq_false_iff_eq, decide_eq_true_eq, decide_eq_false_iff_not, Bool.not_true, Bool.not_false, Int.not_le, Int.not_lt] at hc2)) | ((with_reducible refine CondK.split (fun hc => ?_) (fun hc => ?_)) <;> (have hc2 := hc; try simp only [beq_eq_false_iff_ne, beq_iff_eq, ne_eq, bne_iff_ne, bne_eq_false_iff_eq, decide_eq_true_eq, decide_eq_false_iff_not, Bool.not_true, Bool.not_false, Int.not_le, Int.not_lt] at hc2)) | ((with_reducible refine PickK.split (fun hc => ?_) (fun hc => ?_)) <;> (have hc2 := hc; try simp only [beq_eq_false_iff_ne, beq_iff_eq, ne_eq, bne_iff_ne, bne_eq_false_iff_eq, decide_eq_true_eq, decide_eq_false_iff_not, Bool.not_true, Bool.not_false, Int.not_le, Int.not_lt] at hc2)) | (with_reducible refine dop_buildSlice ?_) | (with_reducible refine dop_build ?_) | ((with_reducible refine Cr.call (f := 45) (bisSpan_ok _ _ _ _ _) ?_)) | (with_reducible refine CallV.of (f := 45) (bisSpan_ok _ _ _ _ _) ni45 ?_) | ((with_reducible refine GuardD.split (fun hc => ?_) (fun hc => ?_)) <;> (have hc2 := hc; try simp only [beq_eq_false_iff_ne, beq_iff_eq, ne_eq, bne_iff_ne, bne_eq_false_iff_eq, decide_eq_true_eq, decide_eq_false_iff_not, Bool.not_true, Bool.not_false, Int.not_le, Int.not_lt] at hc2)) | (with_reducible refine stp_build ?_) | (with_reducible refine stp_buildSlice ?_) | (with_reducible refine stp_store ?_) | (with_reducible refine stp_ns ?_) | (with_reducible refine NsB.intro (fun h' ho K' hk => by simp -implicitDefEqProofs (maxSteps := 1000000) only [go_sem, seval, *] <;> exact hk) ?_) | (with_reducible refine WrB.intro _ (by simp -implicitDefEqProofs (maxSteps := 1000000) only [go_sem, seval, *]) (fun h' ho K' hk => by simp -implicitDefEqProofs (maxSteps := 1000000) only [go_sem, seval, *]; exact hk) ?_) | ((with_reducible refine DDraw.auto mo ?_ ?_); kernel_rfl)) <;> simp -implicitDefEqProofs (maxSteps := 1000000) only [go_sem, seval, *]) | (with_reducible refine bi_same ?_))
theorem isForce_ok (ro : Addr → Option Value) (lo hi : Int) (h : 0 ≤ lo ∧ lo ≤ hi ∧ hi ≤ 100000000) :
    Cr Try.prog 48 #[.agg #[.int .i64 lo, .int .i64 hi]] ro (.bool true) := by
  obtain ⟨c1, c2, c3⟩ := h
  have c4 : lo ≤ 100000000 := by omega
  have c5 : 0 ≤ hi := by omega
  (refine Cr.of Try.func48 rfl rfl (fun F hF => ?_); simp only [Try.ntmps48, Try.results48, List.size_toArray, List.length_cons, List.length_nil, Nat.reduceAdd, Nat.reduceSub, Array.replicate_succ, Array.replicate_zero, List.push_toArray, List.append_toArray, List.nil_append, List.cons_append]; simp -implicitDefEqProofs (maxSteps := 1000000) only [go_sem, seval])
  subst hF
  try simp -implicitDefEqProofs (maxSteps := 1000000) only [go_sem, seval, *]
  repeat' (first | ((first | ((with_reducible refine NewK.intro fun g hg hn => ?_) <;> try simp only [own_none_iff] at hn) | ((with_reducible refine GuardB.split (fun hc => ?_) (fun hc => ?_)) <;> (have hc2 := hc; try simp only [beq_eq_false_iff_ne, beq_iff_eq, ne_eq, bne_iff_ne, bne_eq_false_iff_eq, decide_eq_true_eq, decide_eq_false_iff_not, Bool.not_true, Bool.not_false, Int.not_le, Int.not_lt] at hc2)) | ((with_reducible refine CondK.split (fun hc => ?_) (fun hc => ?_)) <;> (have hc2 := hc; try simp only [beq_eq_false_iff_ne, beq_iff_eq, ne_eq, bne_iff_ne, bne_eq_false_iff_eq, decide_eq_true_eq, decide_eq_false_iff_not, Bool.not_true, Bool.not_false, Int.not_le, Int.not_lt] at hc2)) | ((with_reducible refine PickK.split (fun hc => ?_) (fun hc => ?_)) <;> (have hc2 := hc; try simp only [beq_eq_false_iff_ne, beq_iff_eq, ne_eq, bne_iff_ne, bne_eq_false_iff_eq, decide_eq_true_eq, decide_eq_false_iff_not, Bool.not_true, Bool.not_false, Int.not_le, Int.not_lt] at hc2)) | (with_reducible refine dop_buildSlice ?_) | (with_reducible refine dop_build ?_) | ((with_reducible refine Cr.call (f := 45) (bisSpan_ok _ _ _ _ _) ?_)) | (with_reducible refine CallV.of (f := 45) (bisSpan_ok _ _ _ _ _) ni45 ?_) | ((with_reducible refine GuardD.split (fun hc => ?_) (fun hc => ?_)) <;> (have hc2 := hc; try simp only [beq_eq_false_iff_ne, beq_iff_eq, ne_eq, bne_iff_ne, bne_eq_false_iff_eq, decide_eq_true_eq, decide_eq_false_iff_not, Bool.not_true, Bool.not_false, Int.not_le, Int.not_lt] at hc2)) | (with_reducible refine stp_build ?_) | (with_reducible refine stp_buildSlice ?_) | (with_reducible refine stp_store ?_) | (with_reducible refine stp_ns ?_) | (with_reducible refine NsB.intro (fun h' ho K' hk => by simp -implicitDefEqProofs (maxSteps := 1000000) only [go_sem, seval, *] <;> exact hk) ?_) | (with_reducible refine WrB.intro _ (by simp -implicitDefEqProofs (maxSteps := 1000000) only [go_sem, seval, *]) (fun h' ho K' hk => by simp -implicitDefEqProofs (maxSteps := 1000000) only [go_sem, seval, *]; exact hk) ?_) | ((with_reducible refine DDraw.auto mo ?_ ?_); kernel_rfl)) <;> simp -implicitDefEqProofs (maxSteps := 1000000) only [go_sem, seval, *]) | (with_reducible refine bi_same ?_))
/-- A kind of bolts that is valid. -/
structure BoltOk (ld th hd ot0 ot1 oh0 oh1 st0 st1 sp0 sp1 yi0 yi1 : Int) : Prop where
  hl : 1 ≤ ld ∧ ld ≤ 100000
  ht : 0 ≤ th ∧ th ≤ 100000
  hh : 0 ≤ hd ∧ hd ≤ 100000
  ho : 0 ≤ ot0 ∧ ot0 ≤ ot1 ∧ ot1 ≤ 1000
  hp : 0 ≤ oh0 ∧ oh0 ≤ oh1 ∧ oh1 ≤ 1000
  hs : 1 ≤ st0 ∧ st0 ≤ st1 ∧ st1 ≤ 100000000
  hr : 1 ≤ sp0 ∧ sp0 ≤ sp1 ∧ sp1 ≤ 100000
  hy : 1 ≤ yi0 ∧ yi0 ≤ yi1 ∧ yi1 ≤ 100000000
theorem bcheck_ok (ro : Addr → Option Value) (ld th hd ot0 ot1 oh0 oh1 st0 st1 sp0 sp1 yi0 yi1 : Int) (hv : BoltOk ld th hd ot0 ot1 oh0 oh1 st0 st1 sp0 sp1 yi0 yi1) :
    Cr Try.prog 14 #[.agg #[.int .i64 ld, .int .i64 th, .int .i64 hd, .int .i64 ot0, .int .i64 ot1, .int .i64 oh0, .int .i64 oh1, .int .i64 st0, .int .i64 st1, .int .i64 sp0, .int .i64 sp1, .int .i64 yi0, .int .i64 yi1]] ro (.int .i64 0) := by
  obtain ⟨⟨a1, a2⟩, ⟨a3, a4⟩, ⟨a5, a6⟩, ⟨b1, b2, b3⟩, ⟨c1, c2, c3⟩, ⟨d1, d2, d3⟩, ⟨e1, e2, e3⟩, ⟨f1, f2, f3⟩⟩ := hv
  have b4 : ot0 ≤ 1000 := by omega
  have b5 : 0 ≤ ot1 := by omega
  have c4 : oh0 ≤ 1000 := by omega
  have c5 : 0 ≤ oh1 := by omega
  have d4 : st0 ≤ 100000000 := by omega
  have d5 : 1 ≤ st1 := by omega
  have e4 : sp0 ≤ 100000 := by omega
  have e5 : 1 ≤ sp1 := by omega
  have f4 : yi0 ≤ 100000000 := by omega
  have f5 : 1 ≤ yi1 := by omega
  (refine Cr.of Try.func14 rfl rfl (fun F hF => ?_); simp only [Try.ntmps14, Try.results14, List.size_toArray, List.length_cons, List.length_nil, Nat.reduceAdd, Nat.reduceSub, Array.replicate_succ, Array.replicate_zero, List.push_toArray, List.append_toArray, List.nil_append, List.cons_append]; simp -implicitDefEqProofs (maxSteps := 1000000) only [go_sem, seval])
  subst hF
  try simp -implicitDefEqProofs (maxSteps := 1000000) only [go_sem, seval, *]
  repeat' (first | ((first | (with_reducible refine DLoop.rounds 3 ?_) | ((with_reducible refine NewK.intro fun g hg hn => ?_) <;> try simp only [own_none_iff] at hn) | ((with_reducible refine GuardB.split (fun hc => ?_) (fun hc => ?_)) <;> (have hc2 := hc; try simp only [beq_eq_false_iff_ne, beq_iff_eq, ne_eq, bne_iff_ne, bne_eq_false_iff_eq, decide_eq_true_eq, decide_eq_false_iff_not, Bool.not_true, Bool.not_false, Int.not_le, Int.not_lt] at hc2)) | ((with_reducible refine CondK.split (fun hc => ?_) (fun hc => ?_)) <;> (have hc2 := hc; try simp only [beq_eq_false_iff_ne, beq_iff_eq, ne_eq, bne_iff_ne, bne_eq_false_iff_eq, decide_eq_true_eq, decide_eq_false_iff_not, Bool.not_true, Bool.not_false, Int.not_le, Int.not_lt] at hc2)) | ((with_reducible refine PickK.split (fun hc => ?_) (fun hc => ?_)) <;> (have hc2 := hc; try simp only [beq_eq_false_iff_ne, beq_iff_eq, ne_eq, bne_iff_ne, bne_eq_false_iff_eq, decide_eq_true_eq, decide_eq_false_iff_not, Bool.not_true, Bool.not_false, Int.not_le, Int.not_lt] at hc2)) | (with_reducible refine dop_buildSlice ?_) | (with_reducible refine dop_build ?_) | ((with_reducible refine Cr.call (f := 44) (bwithin_ok _ _ _ _ _ _ _ (by simp -implicitDefEqProofs (maxSteps := 1000000) only [go_sem, seval, *]) ⟨by decide⟩) ?_)) | (with_reducible refine CallV.of (f := 44) (bwithin_ok _ _ _ _ _ _ _ (by simp -implicitDefEqProofs (maxSteps := 1000000) only [go_sem, seval, *]) ⟨by decide⟩) ni44 ?_) | ((with_reducible refine Cr.call (f := 45) (bisSpan_ok _ _ _ _ _) ?_)) | (with_reducible refine CallV.of (f := 45) (bisSpan_ok _ _ _ _ _) ni45 ?_) | ((with_reducible refine GuardD.split (fun hc => ?_) (fun hc => ?_)) <;> (have hc2 := hc; try simp only [beq_eq_false_iff_ne, beq_iff_eq, ne_eq, bne_iff_ne, bne_eq_false_iff_eq, decide_eq_true_eq, decide_eq_false_iff_not, Bool.not_true, Bool.not_false, Int.not_le, Int.not_lt] at hc2)) | (with_reducible refine stp_build ?_) | (with_reducible refine stp_buildSlice ?_) | (with_reducible refine stp_store ?_) | (with_reducible refine stp_ns ?_) | (with_reducible refine NsB.intro (fun h' ho K' hk => by simp -implicitDefEqProofs (maxSteps := 1000000) only [go_sem, seval, *] <;> exact hk) ?_) | (with_reducible refine WrB.intro _ (by simp -implicitDefEqProofs (maxSteps := 1000000) only [go_sem, seval, *]) (fun h' ho K' hk => by simp -implicitDefEqProofs (maxSteps := 1000000) only [go_sem, seval, *]; exact hk) ?_) | ((with_reducible refine DDraw.auto mo ?_ ?_); kernel_rfl)) <;> simp -implicitDefEqProofs (maxSteps := 1000000) only [go_sem, seval, *]) | (with_reducible refine bi_same ?_))

end Go.Proofs.Ytdhhaglaikdpbaa
