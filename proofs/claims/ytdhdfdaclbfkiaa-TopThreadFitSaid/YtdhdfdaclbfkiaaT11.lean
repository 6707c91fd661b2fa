/-
  Walks. Conditions: none.
-/
import Derived.Test.YtdhdfdaclbfkiaaT10
set_option linter.unusedVariables false
set_option linter.unusedSimpArgs false
namespace Go.Proofs.Ytdhdfdaclbfkiaa
open Go.RowKit Go.SL
set_option maxHeartbeats 1000000
set_option maxRecDepth 1000000
attribute [local go_sem] fl_getD fl_get fl_set lk_def st_def gL_nil gL_zero gL_succ sL_nil_zero sL_nil_succ sL_zero sL_succ Option.getD_none FgK_app onlyL_nil onlyL_none onlyL_some setO_some toB_bool toB_undef yl_def
attribute [local go_sem high] GuardK_yl GuardL_yl
attribute [local go_sem] i64w
attribute [local go_sem] add_none
theorem armDepth_ok (ro : Addr → Option Value) (x y z d0 d1 : Int) (h0 : -128 ≤ d0 ∧ d0 < 128) (h1 : -128 ≤ d1 ∧ d1 < 128) :
    Cr Try.prog 21 #[.agg #[.int .u16 x, .int .u16 y, .int .u16 z, .int .i8 d0, .int .i8 d1]] ro (.agg #[.int .i64 (min (7 * d0) (7 * d1)), .int .i64 (max (7 * d0) (7 * d1))]) := by
  have w1 : IntKind.i64.wrap d0 = d0 := IntWalk.i64_in _ (by omega)
  have w2 : IntKind.i64.wrap d1 = d1 := IntWalk.i64_in _ (by omega)
  have e1 : IntKind.i64.wrap (7 * d0) = 7 * d0 := IntWalk.i64_in _ (by omega)
  have e2 : IntKind.i64.wrap (7 * d1) = 7 * d1 := IntWalk.i64_in _ (by omega)
  clear h0 h1
  (refine Cr.ofP (l := _) Try.func21 Try.ntmps21 rfl rfl (by simp only [seval, List.length_cons, List.length_nil]) (by simp only [seval, List.length_cons, List.length_nil]) (fun F hF => ?_); simp only [Try.results21, List.map_cons, List.map_nil])
  subst hF
  repeat' (first | (with_reducible refine at_seq (by with_unfolding_all exact rfl) ?_) | ((first | (with_reducible refine at_plain (by with_unfolding_all exact rfl) ?_) | (with_reducible refine at_draw (by with_unfolding_all exact rfl) ?_) | (with_reducible refine at_cond (by with_unfolding_all exact rfl) ?_) | (with_reducible refine at_exit (by with_unfolding_all exact rfl) ?_) | (with_reducible refine at_ret (by with_unfolding_all exact rfl) ?_) | (with_reducible refine at_skip (by with_unfolding_all exact rfl) ?_) | (with_reducible refine at_label (by with_unfolding_all exact rfl) ?_)) <;> try simp -implicitDefEqProofs (maxSteps := 1000000) only [go_sem, seval, *]) | (with_reducible refine at_block (by with_unfolding_all exact rfl) ?_) | (with_reducible refine at_loop (by with_unfolding_all exact rfl) ?_) | ((first | ((with_reducible refine NewK.intro fun g hg hn => ?_) <;> try simp only [own_none_iff] at hn) | ((with_reducible refine GuardB.split (fun hc => ?_) (fun hc => ?_)) <;> (have hc2 := hc; try simp only [beq_eq_false_iff_ne, beq_iff_eq, ne_eq, bne_iff_ne, bne_eq_false_iff_eq, decide_eq_true_eq, decide_eq_false_iff_not, Bool.not_true, Bool.not_false, Int.not_le, Int.not_lt] at hc2)) | ((with_reducible refine CondK.split (fun hc => ?_) (fun hc => ?_)) <;> (have hc2 := hc; try simp only [beq_eq_false_iff_ne, beq_iff_eq, ne_eq, bne_iff_ne, bne_eq_false_iff_eq, decide_eq_true_eq, decide_eq_false_iff_not, Bool.not_true, Bool.not_false, Int.not_le, Int.not_lt] at hc2)) | ((with_reducible refine PickK.split (fun hc => ?_) (fun hc => ?_)) <;> (have hc2 := hc; try simp only [beq_eq_false_iff_ne, beq_iff_eq, ne_eq, bne_iff_ne, bne_eq_false_iff_eq, decide_eq_true_eq, decide_eq_false_iff_not, Bool.not_true, Bool.not_false, Int.not_le, Int.not_lt] at hc2)) | (with_reducible refine dop_buildSlice ?_) | (with_reducible refine dop_build ?_) | ((with_reducible refine Cr.call (f := 11) (armSpan_ok _ _ _) ?_)) | (with_reducible refine CallV.of (f := 11) (armSpan_ok _ _ _) ni11 ?_) | ((with_reducible refine GuardD.split (fun hc => ?_) (fun hc => ?_)) <;> (have hc2 := hc; try simp only [beq_eq_false_iff_ne, beq_iff_eq, ne_eq, bne_iff_ne, bne_eq_false_iff_eq, decide_eq_true_eq, decide_eq_false_iff_not, Bool.not_true, Bool.not_false, Int.not_le, Int.not_lt] at hc2)) | (with_reducible refine stp_build ?_) | (with_reducible refine stp_buildSlice ?_) | (with_reducible refine stp_store ?_) | (with_reducible refine stp_ns ?_) | (with_reducible refine NsB.intro (fun h' ho K' hk => by simp -implicitDefEqProofs (maxSteps := 1000000) only [go_sem, seval, *] <;> exact hk) ?_) | (with_reducible refine WrB.intro _ (by simp -implicitDefEqProofs (maxSteps := 1000000) only [go_sem, seval, *]) (fun h' ho K' hk => by simp -implicitDefEqProofs (maxSteps := 1000000) only [go_sem, seval, *]; exact hk) (fun h' ho K' hk => by simp -implicitDefEqProofs (maxSteps := 1000000) only [go_sem, seval, *] at hk; exact hk) (fun h' ho hk => by simp -implicitDefEqProofs (maxSteps := 1000000) only [go_sem, seval, *] at hk <;> with_unfolding_all exact False.elim hk) ?_) | (with_reducible refine WrB.intro _ (by simp -implicitDefEqProofs (maxSteps := 1000000) only [go_sem, seval, *]) (fun h' ho K' hk => by simp -implicitDefEqProofs (maxSteps := 1000000) only [go_sem, seval, *]; exact hk) ?_) | ((with_reducible refine DDraw.auto mo ?_ ?_); kernel_rfl)) <;> simp -implicitDefEqProofs (maxSteps := 1000000) only [go_sem, seval, *]) | (with_reducible refine bi_same ?_))
theorem rat_of {n d q : Int} (hd : 0 < d) (h : n = d * q) : ratN n d = q ∧ ratD n d = 1 := by
  have g : (Int.gcd n d : Int) = d := by
    rw [h, Int.gcd_mul_right_left]
    omega
  unfold ratN ratD
  rw [g, h]
  exact ⟨Int.mul_tdiv_cancel_left _ (by omega), Int.tdiv_self (by omega)⟩
theorem rat_id (a b : Int) (hb : 0 < b) : ratN a b * b = a * ratD a b ∧ 0 < ratD a b ∧ ratD a b ≤ b := by
  have hg : (0 : Int) < (Int.gcd a b : Int) := by have : 0 < Int.gcd a b := Int.gcd_pos_of_ne_zero_right a (by omega); omega
  have ha : ((Int.gcd a b : Int)) ∣ a := Int.gcd_dvd_left ..
  have hbd : ((Int.gcd a b : Int)) ∣ b := Int.gcd_dvd_right ..
  unfold ratN ratD
  generalize (Int.gcd a b : Int) = g at *
  obtain ⟨u, rfl⟩ := ha
  obtain ⟨v, rfl⟩ := hbd
  rw [Int.mul_tdiv_cancel_left _ (by omega), Int.mul_tdiv_cancel_left _ (by omega)]
  have hv : 0 < v := by
    rcases Int.lt_trichotomy v 0 with h | h | h
    · have := Int.mul_neg_of_pos_of_neg hg h; omega
    · subst h; omega
    · exact h
  refine ⟨by rw [← Int.mul_assoc, Int.mul_comm u g], hv, ?_⟩
  have : 1 * v ≤ g * v := Int.mul_le_mul_of_nonneg_right (by omega) (by omega)
  omega
theorem prL_get {p w : Int} {n j : Nat} (h : j < n) : (prL p w n).getD j (0, 0) = prT p w j := by
  unfold prL
  rw [List.getD_eq_getElem?_getD, List.getElem?_map, List.getElem?_range h]
  rfl
theorem shF_const {nd : Nat → Int × Int} {v : Int × Int} : ∀ {n : Nat}, 1 ≤ n → (∀ j, j < n → nd j = v) → shF nd n = v
  | 0, h, _ => absurd h (by omega)
  | n + 1, _, h => by
    rw [shF]
    by_cases hn : n = 0
    · rw [if_pos hn]
      exact h 0 (by omega)
    · rw [if_neg hn, shF_const (n := n) (by omega) fun j hj => h j (by omega), h n (by omega)]
      refine Prod.ext ?_ ?_
      · dsimp only; omega
      · dsimp only; omega
/-- The play of a tooth that is thinner. -/
theorem width_sh {lo hi l r q t : Int} {n : Nat} (hn : 1 ≤ n) : shF (ndF lo hi l r l r (prL (4 * q) (-t) n) (prL (4 * q) 0 n)) n = (-1000 * t, 1000 * t) := by
  refine shF_const hn fun j hj => ?_
  unfold ndF
  rw [prL_get hj, prL_get hj]
  unfold needF prT mostF
  rw [Int.sub_self, Int.sub_self, Int.mul_zero, Int.mul_zero]
  refine Prod.ext ?_ ?_
  · dsimp only; omega
  · dsimp only; omega
theorem prL_cons {p w : Int} {n : Nat} (hn : 1 ≤ n) : ∃ R, prL p w n = prT p w 0 :: R := by
  obtain ⟨m, rfl⟩ : ∃ m, n = m + 1 := ⟨n - 1, by omega⟩
  unfold prL
  rw [List.range_succ_eq_map, List.map_cons]
  exact ⟨_, rfl⟩
theorem tn_len : ∀ (L : List (Int × Int)), (L.flatMap tnC).length = L.length * 2
  | [] => rfl
  | p :: L => by
    rw [List.flatMap_cons, List.length_append, tn_len L, List.length_cons]
    simp only [tnC, List.length_cons, List.length_nil]
    omega
/-- What is read of a perfect thread's block. -/
theorem pr_block {F : Fr} {g n : Nat} {p w : Int} {CL tl : List Value} (hg : F.w0.heap.size ≤ g) (hn : 1 ≤ n) (hCL : (prL p w n).flatMap tnC ++ tl = CL) :
    (CL[0]? = some (.int .i64 (prT p w 0).1) ∧ CL[1]? = some (.int .i64 (prT p w 0).2)) ∧ ∀ h : Hp, h.own g = some (.cells CL.toArray 70 (0, 0)) → readV (h.cell? F) g 0 (n * 2) = some ((prL p w n).flatMap tnC) := by
  subst hCL
  refine ⟨?_, fun h ho => ?_⟩
  · obtain ⟨R, hR⟩ := prL_cons (p := p) (w := w) hn
    rw [hR, List.flatMap_cons]
    exact ⟨rfl, rfl⟩
  · have := readV_row (tl := tl) (e := 70) hg ((prL p w n).flatMap tnC) [] (by rw [List.nil_append]; exact ho) rfl
    rwa [tn_len, prL_len] at this

end Go.Proofs.Ytdhdfdaclbfkiaa
