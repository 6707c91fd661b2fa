/-
  Walks. Conditions: none.
-/
import Derived.Test.YtdhdfdaclbfkiaaT11
set_option linter.unusedVariables false
set_option linter.unusedSimpArgs false
namespace Go.Proofs.Ytdhdfdaclbfkiaa
open Go.RowKit Go.SL
set_option maxHeartbeats 1000000
set_option maxRecDepth 1000000
attribute [local go_sem] fl_getD fl_get fl_set lk_def st_def gL_nil gL_zero gL_succ sL_nil_zero sL_nil_succ sL_zero sL_succ Option.getD_none FgK_app onlyL_nil onlyL_none onlyL_some setO_some toB_bool toB_undef yl_def
attribute [local go_sem high] GuardK_yl GuardL_yl
attribute [local go_sem] i64w
attribute [local go_sem] add_none
attribute [local go_sem] dwp_eqGuardE dwp_eqGuardN rval_eqGuardE rval_eqGuardN
set_option maxHeartbeats 8000000 in
theorem topWidthFit_ok (ro : Addr → Option Value) (x y z d0 d1 t k : Int) (hx : 0 ≤ x ∧ x < 65536) (hy : 0 ≤ y ∧ y < 65536) (hz : 0 ≤ z ∧ z < 65536) (h0 : -128 ≤ d0 ∧ d0 < 128) (h1 : -128 ≤ d1 ∧ d1 < 128) (ht : 0 ≤ t ∧ t < 256) (hk : 0 ≤ k ∧ k < 256) :
    Cr Try.prog 8 #[.agg #[.int .u16 x, .int .u16 y, .int .u16 z, .int .i8 d0, .int .i8 d1], .int .u8 t, .int .u8 k] ro (.bool true) := by
  have kf := Hold.mk (fun ro => armForm_ok ro x y z d0 d1 hx hy hz)
  have kd := Hold.mk (fun ro => armDepth_ok ro x y z d0 d1 h0 h1)
  have f1 := Hold.mk (armForm_fit (x := x) (y := y) (z := z))
  obtain ⟨Q, hQ⟩ : ∃ Q, Q = 1000 + x % 5000 := ⟨_, rfl⟩
  obtain ⟨st, hst⟩ : ∃ s, s = 1 + x % 3 := ⟨_, rfl⟩
  obtain ⟨l, hl⟩ : ∃ s, s = 1 + y % 900 := ⟨_, rfl⟩
  obtain ⟨r, hr⟩ : ∃ s, s = 1 + z % 900 := ⟨_, rfl⟩
  obtain ⟨lo, hlo⟩ : ∃ s, s = min (7 * d0) (7 * d1) := ⟨_, rfl⟩
  obtain ⟨hi, hhi⟩ : ∃ s, s = max (7 * d0) (7 * d1) := ⟨_, rfl⟩
  obtain ⟨n, hn⟩ : ∃ n : Nat, (n : Int) = 1 + k % 4 := ⟨(1 + k % 4).toNat, by omega⟩
  rw [← hQ, ← hst, ← hl, ← hr] at kf f1
  rw [← hlo, ← hhi] at kd
  have wk : IntKind.i64.wrap k = k := IntWalk.i64_in _ (by omega)
  have tk : k.tmod 4 = k % 4 := Int.tmod_eq_emod_of_nonneg hk.1
  have en : IntKind.i64.wrap (1 + k % 4) = (n : Int) := by rw [← hn]; exact IntWalk.i64_in _ (by omega)
  have wt : IntKind.i64.wrap t = t := IntWalk.i64_in _ (by omega)
  have wn : IntKind.i64.wrap (0 - t) = -t := by rw [IntWalk.i64_in _ (by omega)]; omega
  have hQb : 1000 ≤ Q ∧ Q < 6000 := by omega
  have hsb : 1 ≤ st ∧ st ≤ 3 := by omega
  have hnb : 1 ≤ n ∧ n ≤ 4 := by omega
  have hlb : 0 ≤ l ∧ l ≤ 3000 := by omega
  have hrb : 0 ≤ r ∧ r ≤ 3000 := by omega
  have hdb : Hold (-200000 ≤ lo ∧ lo ≤ hi ∧ hi ≤ 200000) := ⟨by omega⟩
  clear hQ hst hl hr hlo hhi hn hx hy hz h0 h1 hk
  have kw := Hold.mk (fun ro => width2_ok ro (4 * Q) l r 900 900 st false 0 0 f1.out (by decide))
  have rw1 := rat_of (n := 1000 * (4 * Q) - 2 * 0 * (l + r)) (d := 2000) (q := 2 * Q) (by decide) (by rw [show (2 : Int) * 0 = 0 from rfl, Int.zero_mul]; omega)
  rw [rw1.1, rw1.2] at kw
  clear rw1
  have e1 : IntKind.i64.wrap (2 * (2 * Q)) = 4 * Q := by rw [IntWalk.i64_in _ (by omega)]; omega
  have e2 : IntKind.i64.wrap (2 * t) = 2 * t := IntWalk.i64_in _ (by omega)
  have e3 : IntKind.i64.wrap (2 * Q - 2 * t + 2 * t) = 2 * Q := by rw [IntWalk.i64_in _ (by omega)]; omega
  have e4 : IntKind.i64.wrap (-1000 * t) = -1000 * t := IntWalk.i64_in _ (by omega)
  have e5 : IntKind.i64.wrap (1000 * t) = 1000 * t := IntWalk.i64_in _ (by omega)
  have m1 := mul_bd (a := 4 * Q) (b := st) (A := 24000) (B := 3) (by omega) (by omega) (by omega) (by omega)
  have m0 : 0 ≤ 4 * Q * st := Int.mul_nonneg (by omega) (by omega)
  have e6 : IntKind.i64.wrap (4 * Q * st) = 4 * Q * st := IntWalk.i64_in _ (by omega)
  obtain ⟨LD, hLD⟩ : ∃ L, L = 4 * Q * st := ⟨_, rfl⟩
  rw [← hLD] at m1 m0
  rw [← hLD] at e6
  have e12 : IntKind.i64.wrap (4 * Q * st) = LD := by rw [← hLD]; exact e6
  have m2 := mul_bd (a := LD) (b := t) (A := 72000) (B := 255) (by omega) (by omega) (by omega) (by omega)
  have m3 : 0 ≤ LD * t := Int.mul_nonneg (by omega) (by omega)
  have e7 : IntKind.i64.wrap (LD * t) = LD * t := IntWalk.i64_in _ (by omega)
  obtain ⟨X, hX⟩ : ∃ X, X = LD * t / 16 := ⟨_, rfl⟩
  have e8 : IntKind.i64.wrap ((LD * t).tdiv 16) = X := by rw [hX]; exact IntWalk.i64_quo _ _ (by omega)
  have hXb : 0 ≤ X ∧ X ≤ 1200000 := by omega
  have ka := Hold.mk (fun ro => advance_ok ro (4 * Q) l r 900 900 st 0 X f1.out (by omega))
  rw [← hLD] at ka
  obtain ⟨i1, i2, i3⟩ := rat_id (LD * X) 1000000 (by decide)
  generalize ratN (LD * X) 1000000 = N at *
  generalize ratD (LD * X) 1000000 = D at *
  have m4 := mul_bd (a := LD) (b := X) (A := 72000) (B := 1200000) (by omega) (by omega) (by omega) (by omega)
  have m5 := mul_bd (a := LD * X) (b := D) (A := 86400000000) (B := 1000000) (by omega) (by omega) (by omega) (by omega)
  have e9 : IntKind.i64.wrap (LD * X) = LD * X := IntWalk.i64_in _ (by omega)
  have e10 : IntKind.i64.wrap (LD * X * D) = LD * X * D := IntWalk.i64_in _ (by omega)
  have e11 : IntKind.i64.wrap (N * 1000000) = LD * X * D := by rw [i1]; exact e10
  have c1 : (D > 0) = True := by simp only [eq_iff_iff, iff_true]; exact i2
  have hPb : Hold (0 ≤ 4 * Q ∧ 4 * Q ≤ 200000) := ⟨by omega⟩
  have hw1 : Hold (-10000 ≤ -t ∧ -t ≤ 10000) := ⟨by omega⟩
  have hA : Hold (ThOk n l r (prL (4 * Q) (-t) n)) := ⟨prL_ThOk (by omega) (by omega) (by omega) hlb hrb⟩
  have hB : Hold (ThOk n l r (prL (4 * Q) 0 n)) := ⟨prL_ThOk (by omega) (by omega) (by omega) hlb hrb⟩
  have hN : Hold (1 ≤ n ∧ n ≤ 60) := ⟨by omega⟩
  have z0 : ((0 : Int) < (n : Int)) = True := by simp only [eq_iff_iff, iff_true]; omega
  have sh := width_sh (lo := lo) (hi := hi) (l := l) (r := r) (q := Q) (t := t) (n := n) (by omega)
  have ks := Hold.mk (fun ro b c b' c' hc hc' ra rb => Shift_ok ro lo hi l r l r (prL (4 * Q) (-t) n) (prL (4 * Q) 0 n) b c b' c' n hdb hA hB hc hc' ra rb (by rw [sh]; dsimp only; omega))
  rw [sh] at ks
  dsimp only at ks
  have pt : IntKind.i64.wrap ((prT (4 * Q) (-t) 0).2 - (prT (4 * Q) (-t) 0).1) = 2 * Q - 2 * t := by unfold prT; dsimp only; rw [IntWalk.i64_in _ (by omega)]; omega
  clear hLD e6 sh m0 m1 m2 m3 m4 m5 i1 i2 i3 hX hXb hQb hsb hlb hrb ht hA hB
  refine Cr.ofD fun F hF hT => ?_
  clear hF
  (refine DCall.inlP (l := _) Try.func8 Try.ntmps8 rfl rfl (by simp only [seval, List.length_cons, List.length_nil]) (by simp only [seval, List.length_cons, List.length_nil]) ?_; simp only [Try.results8, List.map_cons, List.map_nil])
  repeat' (first | (with_reducible refine at_seq (by with_unfolding_all exact rfl) ?_) | ((first | (with_reducible refine at_plain (by with_unfolding_all exact rfl) ?_) | (with_reducible refine at_draw (by with_unfolding_all exact rfl) ?_) | (with_reducible refine at_cond (by with_unfolding_all exact rfl) ?_) | (with_reducible refine at_exit (by with_unfolding_all exact rfl) ?_) | (with_reducible refine at_ret (by with_unfolding_all exact rfl) ?_) | (with_reducible refine at_skip (by with_unfolding_all exact rfl) ?_) | (with_reducible refine at_label (by with_unfolding_all exact rfl) ?_)) <;> try simp -implicitDefEqProofs (maxSteps := 1000000) only [go_sem, seval, *]) | (with_reducible refine at_block (by with_unfolding_all exact rfl) ?_) | (with_reducible refine at_loop (by with_unfolding_all exact rfl) ?_) | ((first | ((with_reducible refine NewK.intro fun g hg hn => ?_) <;> try simp only [own_none_iff] at hn) | ((with_reducible refine GuardB.split (fun hc => ?_) (fun hc => ?_)) <;> (have hc2 := hc; try simp only [beq_eq_false_iff_ne, beq_iff_eq, ne_eq, bne_iff_ne, bne_eq_false_iff_eq, decide_eq_true_eq, decide_eq_false_iff_not, Bool.not_true, Bool.not_false, Int.not_le, Int.not_lt] at hc2)) | ((with_reducible refine CondK.split (fun hc => ?_) (fun hc => ?_)) <;> (have hc2 := hc; try simp only [beq_eq_false_iff_ne, beq_iff_eq, ne_eq, bne_iff_ne, bne_eq_false_iff_eq, decide_eq_true_eq, decide_eq_false_iff_not, Bool.not_true, Bool.not_false, Int.not_le, Int.not_lt] at hc2)) | ((with_reducible refine PickK.split (fun hc => ?_) (fun hc => ?_)) <;> (have hc2 := hc; try simp only [beq_eq_false_iff_ne, beq_iff_eq, ne_eq, bne_iff_ne, bne_eq_false_iff_eq, decide_eq_true_eq, decide_eq_false_iff_not, Bool.not_true, Bool.not_false, Int.not_le, Int.not_lt] at hc2)) | (with_reducible refine dop_buildSlice ?_) | (with_reducible refine dop_build ?_) | ((with_reducible refine Cr.call (f := 18) (kf.out _) ?_)) | (with_reducible refine CallV.of (f := 18) (kf.out _) ni18 ?_) | ((with_reducible refine Cr.call (f := 21) (kd.out _) ?_)) | (with_reducible refine CallV.of (f := 21) (kd.out _) ni21 ?_) | ((with_reducible refine Cr.call (f := 42) (kw.out _) ?_)) | (with_reducible refine CallV.of (f := 42) (kw.out _) ni42 ?_) | ((with_reducible refine DDraw.told (id := 1) [] [] mo ?_ ?_); kernel_rfl) | ((with_reducible refine DDraw.told (id := 4) [] [] mo ?_ ?_); kernel_rfl) | ((with_reducible refine GuardD.split (fun hc => ?_) (fun hc => ?_)) <;> (have hc2 := hc; try simp only [beq_eq_false_iff_ne, beq_iff_eq, ne_eq, bne_iff_ne, bne_eq_false_iff_eq, decide_eq_true_eq, decide_eq_false_iff_not, Bool.not_true, Bool.not_false, Int.not_le, Int.not_lt] at hc2)) | (with_reducible refine stp_build ?_) | (with_reducible refine stp_buildSlice ?_) | (with_reducible refine stp_store ?_) | (with_reducible refine stp_ns ?_) | (with_reducible refine NsB.intro (fun h' ho K' hk => by simp -implicitDefEqProofs (maxSteps := 1000000) only [go_sem, seval, *] <;> exact hk) ?_) | (with_reducible refine WrB.intro _ (by simp -implicitDefEqProofs (maxSteps := 1000000) only [go_sem, seval, *]) (fun h' ho K' hk => by simp -implicitDefEqProofs (maxSteps := 1000000) only [go_sem, seval, *]; exact hk) (fun h' ho K' hk => by simp -implicitDefEqProofs (maxSteps := 1000000) only [go_sem, seval, *] at hk; exact hk) (fun h' ho hk => by simp -implicitDefEqProofs (maxSteps := 1000000) only [go_sem, seval, *] at hk <;> with_unfolding_all exact False.elim hk) ?_) | (with_reducible refine WrB.intro _ (by simp -implicitDefEqProofs (maxSteps := 1000000) only [go_sem, seval, *]) (fun h' ho K' hk => by simp -implicitDefEqProofs (maxSteps := 1000000) only [go_sem, seval, *]; exact hk) ?_) | ((with_reducible refine DDraw.auto mo ?_ ?_); kernel_rfl)) <;> simp -implicitDefEqProofs (maxSteps := 1000000) only [go_sem, seval, *]) | (with_reducible refine bi_same ?_))
  rename_i g3 hg3 hn3 g7 hg7 hn7 g8 hg8 hn8
  generalize hgg : g = g10 at *
  clear hgg
  refine armPerfect_R F _ _ n (4 * Q) l r 900 900 st 0 (-t) false hN hPb hw1 fun gp yy hgp hnp => ?_
  obtain ⟨CL, hCL⟩ : ∃ CL, (prL (4 * Q) (-t) n).flatMap tnC ++ yy.1.2 = CL := ⟨_, rfl⟩
  obtain ⟨⟨v0, v1⟩, rd⟩ := pr_block (F := F) hgp (by have := hN.out; omega) hCL
  rw [hCL]
  clear hCL
  replace rd := Hold.mk rd
  have hcp := Hold.mk yy.2
  simp only [own_none_iff] at hnp
  simp -implicitDefEqProofs (maxSteps := 1000000) only [go_sem, seval, *]
  repeat' (first | (with_reducible refine at_seq (by with_unfolding_all exact rfl) ?_) | ((first | (with_reducible refine at_plain (by with_unfolding_all exact rfl) ?_) | (with_reducible refine at_draw (by with_unfolding_all exact rfl) ?_) | (with_reducible refine at_cond (by with_unfolding_all exact rfl) ?_) | (with_reducible refine at_exit (by with_unfolding_all exact rfl) ?_) | (with_reducible refine at_ret (by with_unfolding_all exact rfl) ?_) | (with_reducible refine at_skip (by with_unfolding_all exact rfl) ?_) | (with_reducible refine at_label (by with_unfolding_all exact rfl) ?_)) <;> try simp -implicitDefEqProofs (maxSteps := 1000000) only [go_sem, seval, *]) | (with_reducible refine at_block (by with_unfolding_all exact rfl) ?_) | (with_reducible refine at_loop (by with_unfolding_all exact rfl) ?_) | ((first | ((with_reducible refine DDraw.told (id := 4) [3, 6] [] mo ?_ ?_); kernel_rfl) | ((with_reducible refine NewK.intro fun g hg hn => ?_) <;> try simp only [own_none_iff] at hn) | ((with_reducible refine GuardB.split (fun hc => ?_) (fun hc => ?_)) <;> (have hc2 := hc; try simp only [beq_eq_false_iff_ne, beq_iff_eq, ne_eq, bne_iff_ne, bne_eq_false_iff_eq, decide_eq_true_eq, decide_eq_false_iff_not, Bool.not_true, Bool.not_false, Int.not_le, Int.not_lt] at hc2)) | ((with_reducible refine CondK.split (fun hc => ?_) (fun hc => ?_)) <;> (have hc2 := hc; try simp only [beq_eq_false_iff_ne, beq_iff_eq, ne_eq, bne_iff_ne, bne_eq_false_iff_eq, decide_eq_true_eq, decide_eq_false_iff_not, Bool.not_true, Bool.not_false, Int.not_le, Int.not_lt] at hc2)) | ((with_reducible refine PickK.split (fun hc => ?_) (fun hc => ?_)) <;> (have hc2 := hc; try simp only [beq_eq_false_iff_ne, beq_iff_eq, ne_eq, bne_iff_ne, bne_eq_false_iff_eq, decide_eq_true_eq, decide_eq_false_iff_not, Bool.not_true, Bool.not_false, Int.not_le, Int.not_lt] at hc2)) | (with_reducible refine dop_buildSlice ?_) | (with_reducible refine dop_build ?_) | ((with_reducible refine DDraw.told (id := 1) [] [] mo ?_ ?_); kernel_rfl) | ((with_reducible refine DDraw.told (id := 4) [] [] mo ?_ ?_); kernel_rfl) | ((with_reducible refine GuardD.split (fun hc => ?_) (fun hc => ?_)) <;> (have hc2 := hc; try simp only [beq_eq_false_iff_ne, beq_iff_eq, ne_eq, bne_iff_ne, bne_eq_false_iff_eq, decide_eq_true_eq, decide_eq_false_iff_not, Bool.not_true, Bool.not_false, Int.not_le, Int.not_lt] at hc2)) | (with_reducible refine stp_build ?_) | (with_reducible refine stp_buildSlice ?_) | (with_reducible refine stp_store ?_) | (with_reducible refine stp_ns ?_) | (with_reducible refine NsB.intro (fun h' ho K' hk => by simp -implicitDefEqProofs (maxSteps := 1000000) only [go_sem, seval, *] <;> exact hk) ?_) | (with_reducible refine WrB.intro _ (by simp -implicitDefEqProofs (maxSteps := 1000000) only [go_sem, seval, *]) (fun h' ho K' hk => by simp -implicitDefEqProofs (maxSteps := 1000000) only [go_sem, seval, *]; exact hk) (fun h' ho K' hk => by simp -implicitDefEqProofs (maxSteps := 1000000) only [go_sem, seval, *] at hk; exact hk) (fun h' ho hk => by simp -implicitDefEqProofs (maxSteps := 1000000) only [go_sem, seval, *] at hk <;> with_unfolding_all exact False.elim hk) ?_) | (with_reducible refine WrB.intro _ (by simp -implicitDefEqProofs (maxSteps := 1000000) only [go_sem, seval, *]) (fun h' ho K' hk => by simp -implicitDefEqProofs (maxSteps := 1000000) only [go_sem, seval, *]; exact hk) ?_) | ((with_reducible refine DDraw.auto mo ?_ ?_); kernel_rfl)) <;> simp -implicitDefEqProofs (maxSteps := 1000000) only [go_sem, seval, *]) | (with_reducible refine bi_same ?_))
  generalize hgg : g = g12 at *
  clear hgg
  refine stp_rob (f := 24) (args := #[.agg #[.int .i64 (4 * Q), .int .i64 l, .int .i64 r, .int .i64 900, .int .i64 900, .int .i64 st, .bool false, .int .i64 0], .int .i64 n, .int .i64 0]) (by simp -implicitDefEqProofs (maxSteps := 1000000) only [go_sem, seval, *]) fun hi => RobK.one (X := {y : Nat × List Value // n ≤ y.1}) (val := fun g y => .agg #[.slice (some ⟨g, 0, none⟩) n y.1.1, .int .i64 l, .int .i64 r]) (ob := fun g y => .cells ((prL (4 * Q) 0 n).flatMap tnC ++ y.1.2).toArray 70 (0, 0)) (fun h1 K' _ H => armPerfect_R F h1 K' n (4 * Q) l r 900 900 st 0 0 false hN hPb ⟨by decide⟩ H) hi fun gq zz hgq hnq => ?_
  clear hi
  obtain ⟨CM, hCM⟩ : ∃ CM, (prL (4 * Q) 0 n).flatMap tnC ++ zz.1.2 = CM := ⟨_, rfl⟩
  obtain ⟨_, re⟩ := pr_block (F := F) hgq (by have := hN.out; omega) hCM
  rw [hCM]
  clear hCM
  replace re := Hold.mk re
  have hcq := Hold.mk zz.2
  simp only [own_none_iff] at hnq
  simp -implicitDefEqProofs (maxSteps := 1000000) only [go_sem, seval, *]
  repeat' (first | (with_reducible refine at_seq (by with_unfolding_all exact rfl) ?_) | ((first | (with_reducible refine at_plain (by with_unfolding_all exact rfl) ?_) | (with_reducible refine at_draw (by with_unfolding_all exact rfl) ?_) | (with_reducible refine at_cond (by with_unfolding_all exact rfl) ?_) | (with_reducible refine at_exit (by with_unfolding_all exact rfl) ?_) | (with_reducible refine at_ret (by with_unfolding_all exact rfl) ?_) | (with_reducible refine at_skip (by with_unfolding_all exact rfl) ?_) | (with_reducible refine at_label (by with_unfolding_all exact rfl) ?_)) <;> try simp -implicitDefEqProofs (maxSteps := 1000000) only [go_sem, seval, *]) | (with_reducible refine at_block (by with_unfolding_all exact rfl) ?_) | (with_reducible refine at_loop (by with_unfolding_all exact rfl) ?_) | ((first | ((with_reducible refine NewK.intro fun g hg hn => ?_) <;> try simp only [own_none_iff] at hn) | ((with_reducible refine GuardB.split (fun hc => ?_) (fun hc => ?_)) <;> (have hc2 := hc; try simp only [beq_eq_false_iff_ne, beq_iff_eq, ne_eq, bne_iff_ne, bne_eq_false_iff_eq, decide_eq_true_eq, decide_eq_false_iff_not, Bool.not_true, Bool.not_false, Int.not_le, Int.not_lt] at hc2)) | ((with_reducible refine CondK.split (fun hc => ?_) (fun hc => ?_)) <;> (have hc2 := hc; try simp only [beq_eq_false_iff_ne, beq_iff_eq, ne_eq, bne_iff_ne, bne_eq_false_iff_eq, decide_eq_true_eq, decide_eq_false_iff_not, Bool.not_true, Bool.not_false, Int.not_le, Int.not_lt] at hc2)) | ((with_reducible refine PickK.split (fun hc => ?_) (fun hc => ?_)) <;> (have hc2 := hc; try simp only [beq_eq_false_iff_ne, beq_iff_eq, ne_eq, bne_iff_ne, bne_eq_false_iff_eq, decide_eq_true_eq, decide_eq_false_iff_not, Bool.not_true, Bool.not_false, Int.not_le, Int.not_lt] at hc2)) | (with_reducible refine dop_buildSlice ?_) | (with_reducible refine dop_build ?_) | ((with_reducible refine DDraw.told (id := 1) [] [] mo ?_ ?_); kernel_rfl) | ((with_reducible refine DDraw.told (id := 4) [] [] mo ?_ ?_); kernel_rfl) | ((with_reducible refine GuardD.split (fun hc => ?_) (fun hc => ?_)) <;> (have hc2 := hc; try simp only [beq_eq_false_iff_ne, beq_iff_eq, ne_eq, bne_iff_ne, bne_eq_false_iff_eq, decide_eq_true_eq, decide_eq_false_iff_not, Bool.not_true, Bool.not_false, Int.not_le, Int.not_lt] at hc2)) | (with_reducible refine stp_build ?_) | (with_reducible refine stp_buildSlice ?_) | (with_reducible refine stp_store ?_) | (with_reducible refine stp_ns ?_) | (with_reducible refine NsB.intro (fun h' ho K' hk => by simp -implicitDefEqProofs (maxSteps := 1000000) only [go_sem, seval, *] <;> exact hk) ?_) | (with_reducible refine WrB.intro _ (by simp -implicitDefEqProofs (maxSteps := 1000000) only [go_sem, seval, *]) (fun h' ho K' hk => by simp -implicitDefEqProofs (maxSteps := 1000000) only [go_sem, seval, *]; exact hk) (fun h' ho K' hk => by simp -implicitDefEqProofs (maxSteps := 1000000) only [go_sem, seval, *] at hk; exact hk) (fun h' ho hk => by simp -implicitDefEqProofs (maxSteps := 1000000) only [go_sem, seval, *] at hk <;> with_unfolding_all exact False.elim hk) ?_) | (with_reducible refine WrB.intro _ (by simp -implicitDefEqProofs (maxSteps := 1000000) only [go_sem, seval, *]) (fun h' ho K' hk => by simp -implicitDefEqProofs (maxSteps := 1000000) only [go_sem, seval, *]; exact hk) ?_) | ((with_reducible refine DDraw.auto mo ?_ ?_); kernel_rfl)) <;> simp -implicitDefEqProofs (maxSteps := 1000000) only [go_sem, seval, *]) | (with_reducible refine bi_same ?_))
  refine stp_rob (f := 26) (args := #[.agg #[.slice (some ⟨gp, 0, none⟩) n yy.1.1, .int .i64 l, .int .i64 r], .agg #[.slice (some ⟨gq, 0, none⟩) n zz.1.1, .int .i64 l, .int .i64 r], .int .i64 0, .int .i64 0, .int .i64 n, .agg #[.int .i64 lo, .int .i64 hi]]) (by simp -implicitDefEqProofs (maxSteps := 1000000) only [go_sem, seval, *]) fun hi => RobK.zero (v := .tuple #[.agg #[.int .i64 (-1000 * t), .int .i64 (1000 * t)], .int .i64 0]) (fun h1 hs => ks.out _ gp yy.1.1 gq zz.1.1 hcp.out hcq.out (rd.out h1 (hs gp _ (by simp -implicitDefEqProofs (maxSteps := 1000000) only [go_sem, seval, *]))) (re.out h1 (hs gq _ (by simp -implicitDefEqProofs (maxSteps := 1000000) only [go_sem, seval, *])))) hi ?_
  clear hi rd re ks
  simp -implicitDefEqProofs (maxSteps := 1000000) only [go_sem, seval, *]
  repeat' (first | (with_reducible refine at_seq (by with_unfolding_all exact rfl) ?_) | ((first | (with_reducible refine at_plain (by with_unfolding_all exact rfl) ?_) | (with_reducible refine at_draw (by with_unfolding_all exact rfl) ?_) | (with_reducible refine at_cond (by with_unfolding_all exact rfl) ?_) | (with_reducible refine at_exit (by with_unfolding_all exact rfl) ?_) | (with_reducible refine at_ret (by with_unfolding_all exact rfl) ?_) | (with_reducible refine at_skip (by with_unfolding_all exact rfl) ?_) | (with_reducible refine at_label (by with_unfolding_all exact rfl) ?_)) <;> try simp -implicitDefEqProofs (maxSteps := 1000000) only [go_sem, seval, *]) | (with_reducible refine at_block (by with_unfolding_all exact rfl) ?_) | (with_reducible refine at_loop (by with_unfolding_all exact rfl) ?_) | ((first | ((with_reducible refine NewK.intro fun g hg hn => ?_) <;> try simp only [own_none_iff] at hn) | ((with_reducible refine GuardB.split (fun hc => ?_) (fun hc => ?_)) <;> (have hc2 := hc; try simp only [beq_eq_false_iff_ne, beq_iff_eq, ne_eq, bne_iff_ne, bne_eq_false_iff_eq, decide_eq_true_eq, decide_eq_false_iff_not, Bool.not_true, Bool.not_false, Int.not_le, Int.not_lt] at hc2)) | ((with_reducible refine CondK.split (fun hc => ?_) (fun hc => ?_)) <;> (have hc2 := hc; try simp only [beq_eq_false_iff_ne, beq_iff_eq, ne_eq, bne_iff_ne, bne_eq_false_iff_eq, decide_eq_true_eq, decide_eq_false_iff_not, Bool.not_true, Bool.not_false, Int.not_le, Int.not_lt] at hc2)) | ((with_reducible refine PickK.split (fun hc => ?_) (fun hc => ?_)) <;> (have hc2 := hc; try simp only [beq_eq_false_iff_ne, beq_iff_eq, ne_eq, bne_iff_ne, bne_eq_false_iff_eq, decide_eq_true_eq, decide_eq_false_iff_not, Bool.not_true, Bool.not_false, Int.not_le, Int.not_lt] at hc2)) | (with_reducible refine dop_buildSlice ?_) | (with_reducible refine dop_build ?_) | ((with_reducible refine Cr.call (f := 11) (armSpan_ok _ _ _) ?_)) | (with_reducible refine CallV.of (f := 11) (armSpan_ok _ _ _) ni11 ?_) | ((with_reducible refine Cr.call (f := 19) (ka.out _) ?_)) | (with_reducible refine CallV.of (f := 19) (ka.out _) ni19 ?_) | ((with_reducible refine Cr.call (f := 20) (armThread_ok _) ?_)) | (with_reducible refine CallV.of (f := 20) (armThread_ok _) ni20 ?_) | ((with_reducible refine Cr.call (f := 25) (armFit_ok _) ?_)) | (with_reducible refine CallV.of (f := 25) (armFit_ok _) ni25 ?_) | ((with_reducible refine DDraw.told (id := 1) [] [] mo ?_ ?_); kernel_rfl) | ((with_reducible refine DDraw.told (id := 4) [] [] mo ?_ ?_); kernel_rfl) | ((with_reducible refine GuardD.split (fun hc => ?_) (fun hc => ?_)) <;> (have hc2 := hc; try simp only [beq_eq_false_iff_ne, beq_iff_eq, ne_eq, bne_iff_ne, bne_eq_false_iff_eq, decide_eq_true_eq, decide_eq_false_iff_not, Bool.not_true, Bool.not_false, Int.not_le, Int.not_lt] at hc2)) | (with_reducible refine stp_build ?_) | (with_reducible refine stp_buildSlice ?_) | (with_reducible refine stp_store ?_) | (with_reducible refine stp_ns ?_) | (with_reducible refine NsB.intro (fun h' ho K' hk => by simp -implicitDefEqProofs (maxSteps := 1000000) only [go_sem, seval, *] <;> exact hk) ?_) | (with_reducible refine WrB.intro _ (by simp -implicitDefEqProofs (maxSteps := 1000000) only [go_sem, seval, *]) (fun h' ho K' hk => by simp -implicitDefEqProofs (maxSteps := 1000000) only [go_sem, seval, *]; exact hk) (fun h' ho K' hk => by simp -implicitDefEqProofs (maxSteps := 1000000) only [go_sem, seval, *] at hk; exact hk) (fun h' ho hk => by simp -implicitDefEqProofs (maxSteps := 1000000) only [go_sem, seval, *] at hk <;> with_unfolding_all exact False.elim hk) ?_) | (with_reducible refine WrB.intro _ (by simp -implicitDefEqProofs (maxSteps := 1000000) only [go_sem, seval, *]) (fun h' ho K' hk => by simp -implicitDefEqProofs (maxSteps := 1000000) only [go_sem, seval, *]; exact hk) ?_) | ((with_reducible refine DDraw.auto mo ?_ ?_); kernel_rfl)) <;> simp -implicitDefEqProofs (maxSteps := 1000000) only [go_sem, seval, *]) | (with_reducible refine bi_same ?_))

end Go.Proofs.Ytdhdfdaclbfkiaa
