/-
  Walks. Conditions: none.
-/
import Derived.Test.YtlblahfndlgfmaaF3
set_option linter.unusedVariables false
set_option linter.unusedSimpArgs false
namespace Go.Proofs.Ytlblahfndlgfmaa
open Go.RowKit Go.SL
set_option maxHeartbeats 1000000
set_option maxRecDepth 1000000
attribute [local go_sem] i64w
attribute [local go_sem] dwp_eqGuardE dwp_eqGuardN rval_eqGuardE rval_eqGuardN
theorem fwithin1_ok (ro : Addr → Option Value) (lo hi x : Int) (b1 b2 : Nat) (h1 : ro ⟨b1, 0, none⟩ = some (.int .i64 lo)) (h2 : ro ⟨b2, 0, none⟩ = some (.int .i64 hi)) :
    Cr Try.prog 60 #[.int .i64 x, .pointer (some ⟨b1, 0, none⟩), .pointer (some ⟨b2, 0, none⟩)] ro (.bool (decide (x < lo) || decide (hi < x))) := by
  subst_vars
  (refine Cr.of Try.func60 rfl rfl (fun F hF => ?_); simp only [Try.ntmps60, Try.results60, List.size_toArray, List.length_cons, List.length_nil, Nat.reduceAdd, Nat.reduceSub, Array.replicate_succ, Array.replicate_zero, List.push_toArray, List.append_toArray, List.nil_append, List.cons_append]; simp -implicitDefEqProofs (maxSteps := 1000000) only [go_sem, seval])
  subst hF
  simp -implicitDefEqProofs (maxSteps := 1000000) only [go_sem, seval, *]
  repeat' (first | ((first | ((with_reducible refine NewK.intro fun g hg hn => ?_) <;> try simp only [own_none_iff] at hn) | ((with_reducible refine GuardB.split (fun hc => ?_) (fun hc => ?_)) <;> (have hc2 := hc; try simp only [beq_eq_false_iff_ne, beq_iff_eq, ne_eq, bne_iff_ne, bne_eq_false_iff_eq, decide_eq_true_eq, decide_eq_false_iff_not, Bool.not_true, Bool.not_false, Int.not_le, Int.not_lt] at hc2)) | ((with_reducible refine CondK.split (fun hc => ?_) (fun hc => ?_)) <;> (have hc2 := hc; try simp only [beq_eq_false_iff_ne, beq_iff_eq, ne_eq, bne_iff_ne, bne_eq_false_iff_eq, decide_eq_true_eq, decide_eq_false_iff_not, Bool.not_true, Bool.not_false, Int.not_le, Int.not_lt] at hc2)) | ((with_reducible refine PickK.split (fun hc => ?_) (fun hc => ?_)) <;> (have hc2 := hc; try simp only [beq_eq_false_iff_ne, beq_iff_eq, ne_eq, bne_iff_ne, bne_eq_false_iff_eq, decide_eq_true_eq, decide_eq_false_iff_not, Bool.not_true, Bool.not_false, Int.not_le, Int.not_lt] at hc2)) | (with_reducible refine dop_buildSlice ?_) | (with_reducible refine dop_build ?_) | ((with_reducible refine GuardD.split (fun hc => ?_) (fun hc => ?_)) <;> (have hc2 := hc; try simp only [beq_eq_false_iff_ne, beq_iff_eq, ne_eq, bne_iff_ne, bne_eq_false_iff_eq, decide_eq_true_eq, decide_eq_false_iff_not, Bool.not_true, Bool.not_false, Int.not_le, Int.not_lt] at hc2)) | (with_reducible refine stp_build ?_) | (with_reducible refine stp_buildSlice ?_) | (with_reducible refine stp_store ?_) | (with_reducible refine stp_ns ?_) | (with_reducible refine NsB.intro (fun h' ho K' hk => by simp -implicitDefEqProofs (maxSteps := 1000000) only [go_sem, seval, *] <;> exact hk) ?_) | (with_reducible refine WrB.intro _ (by simp -implicitDefEqProofs (maxSteps := 1000000) only [go_sem, seval, *]) (fun h' ho K' hk => by simp -implicitDefEqProofs (maxSteps := 1000000) only [go_sem, seval, *]; exact hk) (fun h' ho K' hk => by simp -implicitDefEqProofs (maxSteps := 1000000) only [go_sem, seval, *] at hk; exact hk) (fun h' ho hk => by simp -implicitDefEqProofs (maxSteps := 1000000) only [go_sem, seval, *] at hk <;> with_unfolding_all exact False.elim hk) ?_) | (with_reducible refine WrB.intro _ (by simp -implicitDefEqProofs (maxSteps := 1000000) only [go_sem, seval, *]) (fun h' ho K' hk => by simp -implicitDefEqProofs (maxSteps := 1000000) only [go_sem, seval, *]; exact hk) ?_) | ((with_reducible refine DDraw.auto mo ?_ ?_); kernel_rfl)) <;> simp -implicitDefEqProofs (maxSteps := 1000000) only [go_sem, seval, *]) | (with_reducible refine bi_same ?_))
  all_goals simp
theorem fwithin_ok (ro : Addr → Option Value) (lo hi : Int) (b off n c : Nat) (hs : (readI ro b off n).isSome = true) (hn : Hold (n < 2 ^ 63)) :
    Cr Try.prog 35 #[.int .i64 lo, .int .i64 hi, .slice (some ⟨b, off, none⟩) n c] ro (.bool (allO lo hi (readI ro b off n))) := by
  obtain ⟨xs, hx⟩ := Option.isSome_iff_exists.1 hs
  rw [hx, allO_some, ← allI_any]
  (refine Cr.of Try.func35 rfl rfl (fun F hF => ?_); simp only [Try.ntmps35, Try.results35, List.size_toArray, List.length_cons, List.length_nil, Nat.reduceAdd, Nat.reduceSub, Array.replicate_succ, Array.replicate_zero, List.push_toArray, List.append_toArray, List.nil_append, List.cons_append]; simp -implicitDefEqProofs (maxSteps := 1000000) only [go_sem, seval])
  subst hF
  refine NewK.intro fun g1 hg1 hn1 => ?_
  simp -implicitDefEqProofs (maxSteps := 1000000) only [go_sem, seval]
  refine NewK.intro fun g2 hg2 hn2 => ?_
  obtain ⟨hne1, hne2, hn3⟩ := own_set_none hn2
  simp -implicitDefEqProofs (maxSteps := 1000000) only [go_sem, seval]
  refine Cr.call (containsFunc_ok _ b off n c 60 _ (fun x => decide (x < lo) || decide (hi < x)) xs ⟨readI_mono (fun a u e => Hp.cell_ro e) hx⟩ hn (by unfold entB; rw [Try.func60]; rfl) (fun x => fwithin1_ok _ lo hi x g1 g2 ?_ ?_)) ?_
  · simp -implicitDefEqProofs (maxSteps := 1000000) only [go_sem, seval, *]
  · simp -implicitDefEqProofs (maxSteps := 1000000) only [go_sem, seval, *]
  · simp -implicitDefEqProofs (maxSteps := 1000000) only [go_sem, seval, *]
/-- The same for a list that is known. -/
theorem fwithinX_ok (ro : Addr → Option Value) (lo hi : Int) (b off n c : Nat) (xs : List Int) (hx : readI ro b off n = some xs) (hn : Hold (n < 2 ^ 63)) :
    Cr Try.prog 35 #[.int .i64 lo, .int .i64 hi, .slice (some ⟨b, off, none⟩) n c] ro (.bool (allI lo hi xs)) := by
  have := fwithin_ok ro lo hi b off n c (by rw [hx]; rfl) hn
  rwa [hx, allO_some] at this
theorem isBolt_ok (ro : Addr → Option Value) (gf : Nat) (n : Int) (b off m c : Nat) (xs : List Int) (hx : readI ro b off m = some xs) (hm : Hold (m < 2 ^ 63)) (h0 : ro ⟨gf, 0, none⟩ = some (.int .i64 n)) (hn : IntKind.i64.wrap (n - 1) = n - 1) :
    Cr Try.prog 57 #[.pointer (some ⟨gf, 0, none⟩), .slice (some ⟨b, off, none⟩) m c] ro (.bool (allI 0 (n - 1) xs)) := by
  replace hx := Hold.mk hx
  (refine Cr.of Try.func57 rfl rfl (fun F hF => ?_); simp only [Try.ntmps57, Try.results57, List.size_toArray, List.length_cons, List.length_nil, Nat.reduceAdd, Nat.reduceSub, Array.replicate_succ, Array.replicate_zero, List.push_toArray, List.append_toArray, List.nil_append, List.cons_append]; simp -implicitDefEqProofs (maxSteps := 1000000) only [go_sem, seval])
  subst hF
  try simp -implicitDefEqProofs (maxSteps := 1000000) only [go_sem, seval, *]
  repeat' (first | ((first | ((with_reducible refine NewK.intro fun g hg hn => ?_) <;> try simp only [own_none_iff] at hn) | ((with_reducible refine GuardB.split (fun hc => ?_) (fun hc => ?_)) <;> (have hc2 := hc; try simp only [beq_eq_false_iff_ne, beq_iff_eq, ne_eq, bne_iff_ne, bne_eq_false_iff_eq, decide_eq_true_eq, decide_eq_false_iff_not, Bool.not_true, Bool.not_false, Int.not_le, Int.not_lt] at hc2)) | ((with_reducible refine CondK.split (fun hc => ?_) (fun hc => ?_)) <;> (have hc2 := hc; try simp only [beq_eq_false_iff_ne, beq_iff_eq, ne_eq, bne_iff_ne, bne_eq_false_iff_eq, decide_eq_true_eq, decide_eq_false_iff_not, Bool.not_true, Bool.not_false, Int.not_le, Int.not_lt] at hc2)) | ((with_reducible refine PickK.split (fun hc => ?_) (fun hc => ?_)) <;> (have hc2 := hc; try simp only [beq_eq_false_iff_ne, beq_iff_eq, ne_eq, bne_iff_ne, bne_eq_false_iff_eq, decide_eq_true_eq, decide_eq_false_iff_not, Bool.not_true, Bool.not_false, Int.not_le, Int.not_lt] at hc2)) | (with_reducible refine dop_buildSlice ?_) | (with_reducible refine dop_build ?_) | ((with_reducible refine Cr.call (f := 35) (fwithinX_ok _ _ _ _ _ _ _ _ (readI_mono (fun a u e => Hp.cell_ro e) hx.out) hm) ?_)) | (with_reducible refine CallV.of (f := 35) (fwithinX_ok _ _ _ _ _ _ _ _ (readI_mono (fun a u e => Hp.cell_ro e) hx.out) hm) ni35 ?_) | ((with_reducible refine GuardD.split (fun hc => ?_) (fun hc => ?_)) <;> (have hc2 := hc; try simp only [beq_eq_false_iff_ne, beq_iff_eq, ne_eq, bne_iff_ne, bne_eq_false_iff_eq, decide_eq_true_eq, decide_eq_false_iff_not, Bool.not_true, Bool.not_false, Int.not_le, Int.not_lt] at hc2)) | (with_reducible refine stp_build ?_) | (with_reducible refine stp_buildSlice ?_) | (with_reducible refine stp_store ?_) | (with_reducible refine stp_ns ?_) | (with_reducible refine NsB.intro (fun h' ho K' hk => by simp -implicitDefEqProofs (maxSteps := 1000000) only [go_sem, seval, *] <;> exact hk) ?_) | (with_reducible refine WrB.intro _ (by simp -implicitDefEqProofs (maxSteps := 1000000) only [go_sem, seval, *]) (fun h' ho K' hk => by simp -implicitDefEqProofs (maxSteps := 1000000) only [go_sem, seval, *]; exact hk) (fun h' ho K' hk => by simp -implicitDefEqProofs (maxSteps := 1000000) only [go_sem, seval, *] at hk; exact hk) (fun h' ho hk => by simp -implicitDefEqProofs (maxSteps := 1000000) only [go_sem, seval, *] at hk <;> with_unfolding_all exact False.elim hk) ?_) | (with_reducible refine WrB.intro _ (by simp -implicitDefEqProofs (maxSteps := 1000000) only [go_sem, seval, *]) (fun h' ho K' hk => by simp -implicitDefEqProofs (maxSteps := 1000000) only [go_sem, seval, *]; exact hk) ?_) | ((with_reducible refine DDraw.auto mo ?_ ?_); kernel_rfl)) <;> simp -implicitDefEqProofs (maxSteps := 1000000) only [go_sem, seval, *]) | (with_reducible refine bi_same ?_))
def gE (ld th hd ot0 ot1 oh0 oh1 st0 st1 sp0 sp1 yi0 yi1 tq : Int) : Int := if openV ld th hd ot0 ot1 oh0 oh1 st0 st1 sp0 sp1 yi0 yi1 (!(wayB 1 tq tq 0 0 0 0)) = 0 then (if FB ld th hd ot0 ot1 oh0 oh1 st0 st1 sp0 sp1 yi0 yi1 1 tq tq 0 0 0 0 > 100000000 then 3 else 0) else 3
def gA (ld th hd ot0 ot1 oh0 oh1 st0 st1 sp0 sp1 yi0 yi1 tq : Int) : Int := if gE ld th hd ot0 ot1 oh0 oh1 st0 st1 sp0 sp1 yi0 yi1 tq = 0 then FA ld th hd ot0 ot1 oh0 oh1 st0 st1 sp0 sp1 yi0 yi1 1 tq tq 0 0 0 0 else 0
def gB (ld th hd ot0 ot1 oh0 oh1 st0 st1 sp0 sp1 yi0 yi1 tq : Int) : Int := if gE ld th hd ot0 ot1 oh0 oh1 st0 st1 sp0 sp1 yi0 yi1 tq = 0 then FB ld th hd ot0 ot1 oh0 oh1 st0 st1 sp0 sp1 yi0 yi1 1 tq tq 0 0 0 0 else 0
theorem gives_ok (ro : Addr → Option Value) (gf : Nat) (ld th hd ot0 ot1 oh0 oh1 st0 st1 sp0 sp1 yi0 yi1 tq : Int) (hk : readV ro gf 1 13 = some [.int .i64 ld, .int .i64 th, .int .i64 hd, .int .i64 ot0, .int .i64 ot1, .int .i64 oh0, .int .i64 oh1, .int .i64 st0, .int .i64 st1, .int .i64 sp0, .int .i64 sp1, .int .i64 yi0, .int .i64 yi1]) :
    Cr Try.prog 36 #[.pointer (some ⟨gf, 0, none⟩), .int .i64 tq] ro (.tuple #[.agg #[.int .i64 (gA ld th hd ot0 ot1 oh0 oh1 st0 st1 sp0 sp1 yi0 yi1 tq), .int .i64 (gB ld th hd ot0 ot1 oh0 oh1 st0 st1 sp0 sp1 yi0 yi1 tq)], .int .i64 (gE ld th hd ot0 ot1 oh0 oh1 st0 st1 sp0 sp1 yi0 yi1 tq)]) := by
  have z0 := readV_get hk 0 _ rfl
  have z1 := readV_get hk 1 _ rfl
  have z2 := readV_get hk 2 _ rfl
  have z3 := readV_get hk 3 _ rfl
  have z4 := readV_get hk 4 _ rfl
  have z5 := readV_get hk 5 _ rfl
  have z6 := readV_get hk 6 _ rfl
  have z7 := readV_get hk 7 _ rfl
  have z8 := readV_get hk 8 _ rfl
  have z9 := readV_get hk 9 _ rfl
  have z10 := readV_get hk 10 _ rfl
  have z11 := readV_get hk 11 _ rfl
  have z12 := readV_get hk 12 _ rfl
  simp only [Nat.reduceAdd] at z0 z1 z2 z3 z4 z5 z6 z7 z8 z9 z10 z11 z12
  clear hk
  have e0 : gE ld th hd ot0 ot1 oh0 oh1 st0 st1 sp0 sp1 yi0 yi1 tq = if openV ld th hd ot0 ot1 oh0 oh1 st0 st1 sp0 sp1 yi0 yi1 (!(wayB 1 tq tq 0 0 0 0)) = 0 then (if FB ld th hd ot0 ot1 oh0 oh1 st0 st1 sp0 sp1 yi0 yi1 1 tq tq 0 0 0 0 > 100000000 then 3 else 0) else 3 := rfl
  have e1 : gA ld th hd ot0 ot1 oh0 oh1 st0 st1 sp0 sp1 yi0 yi1 tq = if gE ld th hd ot0 ot1 oh0 oh1 st0 st1 sp0 sp1 yi0 yi1 tq = 0 then FA ld th hd ot0 ot1 oh0 oh1 st0 st1 sp0 sp1 yi0 yi1 1 tq tq 0 0 0 0 else 0 := rfl
  have e2 : gB ld th hd ot0 ot1 oh0 oh1 st0 st1 sp0 sp1 yi0 yi1 tq = if gE ld th hd ot0 ot1 oh0 oh1 st0 st1 sp0 sp1 yi0 yi1 tq = 0 then FB ld th hd ot0 ot1 oh0 oh1 st0 st1 sp0 sp1 yi0 yi1 1 tq tq 0 0 0 0 else 0 := rfl
  rw [e1, e2, e0]
  clear e0 e1 e2
  (refine Cr.of Try.func36 rfl rfl (fun F hF => ?_); simp only [Try.ntmps36, Try.results36, List.size_toArray, List.length_cons, List.length_nil, Nat.reduceAdd, Nat.reduceSub, Array.replicate_succ, Array.replicate_zero, List.push_toArray, List.append_toArray, List.nil_append, List.cons_append]; simp -implicitDefEqProofs (maxSteps := 1000000) only [go_sem, seval])
  subst hF
  try simp -implicitDefEqProofs (maxSteps := 1000000) only [go_sem, seval, *]
  repeat' (first | ((first | ((with_reducible refine NewK.intro fun g hg hn => ?_) <;> try simp only [own_none_iff] at hn) | ((with_reducible refine GuardB.split (fun hc => ?_) (fun hc => ?_)) <;> (have hc2 := hc; try simp only [beq_eq_false_iff_ne, beq_iff_eq, ne_eq, bne_iff_ne, bne_eq_false_iff_eq, decide_eq_true_eq, decide_eq_false_iff_not, Bool.not_true, Bool.not_false, Int.not_le, Int.not_lt] at hc2)) | ((with_reducible refine CondK.split (fun hc => ?_) (fun hc => ?_)) <;> (have hc2 := hc; try simp only [beq_eq_false_iff_ne, beq_iff_eq, ne_eq, bne_iff_ne, bne_eq_false_iff_eq, decide_eq_true_eq, decide_eq_false_iff_not, Bool.not_true, Bool.not_false, Int.not_le, Int.not_lt] at hc2)) | ((with_reducible refine PickK.split (fun hc => ?_) (fun hc => ?_)) <;> (have hc2 := hc; try simp only [beq_eq_false_iff_ne, beq_iff_eq, ne_eq, bne_iff_ne, bne_eq_false_iff_eq, decide_eq_true_eq, decide_eq_false_iff_not, Bool.not_true, Bool.not_false, Int.not_le, Int.not_lt] at hc2)) | (with_reducible refine dop_buildSlice ?_) | (with_reducible refine dop_build ?_) | ((with_reducible refine Cr.call (f := 27) (ForceB _ _ _ _ _ _ _ _ _ _ _ _ _ _ _ _ _ _ _ _ _) ?_)) | (with_reducible refine CallV.of (f := 27) (ForceB _ _ _ _ _ _ _ _ _ _ _ _ _ _ _ _ _ _ _ _ _) ni27 ?_) | ((with_reducible refine GuardD.split (fun hc => ?_) (fun hc => ?_)) <;> (have hc2 := hc; try simp only [beq_eq_false_iff_ne, beq_iff_eq, ne_eq, bne_iff_ne, bne_eq_false_iff_eq, decide_eq_true_eq, decide_eq_false_iff_not, Bool.not_true, Bool.not_false, Int.not_le, Int.not_lt] at hc2)) | (with_reducible refine stp_build ?_) | (with_reducible refine stp_buildSlice ?_) | (with_reducible refine stp_store ?_) | (with_reducible refine stp_ns ?_) | (with_reducible refine NsB.intro (fun h' ho K' hk => by simp -implicitDefEqProofs (maxSteps := 1000000) only [go_sem, seval, *] <;> exact hk) ?_) | (with_reducible refine WrB.intro _ (by simp -implicitDefEqProofs (maxSteps := 1000000) only [go_sem, seval, *]) (fun h' ho K' hk => by simp -implicitDefEqProofs (maxSteps := 1000000) only [go_sem, seval, *]; exact hk) (fun h' ho K' hk => by simp -implicitDefEqProofs (maxSteps := 1000000) only [go_sem, seval, *] at hk; exact hk) (fun h' ho hk => by simp -implicitDefEqProofs (maxSteps := 1000000) only [go_sem, seval, *] at hk <;> with_unfolding_all exact False.elim hk) ?_) | (with_reducible refine WrB.intro _ (by simp -implicitDefEqProofs (maxSteps := 1000000) only [go_sem, seval, *]) (fun h' ho K' hk => by simp -implicitDefEqProofs (maxSteps := 1000000) only [go_sem, seval, *]; exact hk) ?_) | ((with_reducible refine DDraw.auto mo ?_ ?_); kernel_rfl)) <;> simp -implicitDefEqProofs (maxSteps := 1000000) only [go_sem, seval, *]) | (with_reducible refine bi_same ?_))
  all_goals simp_all

end Go.Proofs.Ytlblahfndlgfmaa
