/-
  Walks. Conditions: none.
-/
import Derived.Test.YtlbpfmnobapidaaD7
set_option linter.unusedVariables false
set_option linter.unusedSimpArgs false
namespace Go.Proofs.Ytlbpfmnobapidaa
open Go.RowKit Go.SL
set_option maxHeartbeats 1000000
set_option maxRecDepth 1000000
attribute [local go_sem] fl_getD fl_get fl_set lk_def st_def gL_nil gL_zero gL_succ sL_nil_zero sL_nil_succ sL_zero sL_succ Option.getD_none FgK_app onlyL_nil onlyL_none onlyL_some setO_some toB_bool toB_undef yl_def
attribute [local go_sem high] GuardK_yl GuardL_yl
attribute [local go_sem] i64w
attribute [local go_sem] add_none
/-- The first number of which something is so. -/
def firstP (p : Nat → Bool) : Nat → Nat
  | 0 => 0
  | n + 1 => if firstP p n < n then firstP p n else if p n then n else n + 1
theorem firstP_spec (p : Nat → Bool) : ∀ n, firstP p n ≤ n ∧ (∀ k, k < firstP p n → p k = false) ∧ (firstP p n < n → p (firstP p n) = true)
  | 0 => ⟨Nat.le_refl _, fun k h => by simp [firstP] at h, fun h => by simp [firstP] at h⟩
  | n + 1 => by
    have ih := firstP_spec p n
    rw [firstP]
    by_cases h1 : firstP p n < n
    · rw [if_pos h1]
      exact ⟨by omega, ih.2.1, fun _ => ih.2.2 h1⟩
    · rw [if_neg h1]
      have e : firstP p n = n := by omega
      rw [e] at ih
      by_cases h2 : p n = true
      · rw [if_pos h2]
        exact ⟨by omega, ih.2.1, fun _ => h2⟩
      · rw [if_neg h2]
        refine ⟨Nat.le_refl _, fun k hk => ?_, fun h => by omega⟩
        rcases Nat.lt_or_ge k n with h3 | h3
        · exact ih.2.1 k h3
        · obtain rfl : k = n := by omega
          simpa using h2
theorem firstP_eq {p : Nat → Bool} {n i : Nat} (h1 : i ≤ n) (h2 : ∀ k, k < i → p k = false) (h3 : i < n → p i = true) : firstP p n = i := by
  have s := firstP_spec p n
  rcases Nat.lt_trichotomy (firstP p n) i with h | h | h
  · have := s.2.2 (by omega)
    rw [h2 _ h] at this
    cases this
  · exact h
  · have := h3 (by omega)
    rw [s.2.1 _ h] at this
    cases this
def ISr (n f : Nat) (cap : Array Value) (p : Nat → Bool) (k' : Nat) (a : Act) (h : Hp) : Prop :=
  ∃ (i j : Nat) (x : Nat → Value), Hold (j - i = k' ∧ i ≤ j ∧ j ≤ n) ∧ Hold ((∀ k, k < i → p k = false) ∧ ∀ k, j ≤ k → k < n → p k = true) ∧ h = Hp.none_ ∧ a = ⟨fl 26 x [[none, some (.func (.func f) #[] cap), none, none, some (.int .i64 0), some (.int .i64 i), some (.int .i64 j)]], []⟩
theorem search_ok (ro : Addr → Option Value) (n f : Nat) (cap : Array Value) (p : Nat → Bool) (hb : Hold (n ≤ 1000000)) (hent : entB Try.prog f = true) (hm : Hold (∀ i j, i ≤ j → j < n → p i = true → p j = true))
    (hp : Hold (∀ x : Nat, x < n → Cr Try.prog f (#[.int .i64 x] ++ cap) ro (.bool (p x)))) :
    Cr Try.prog 82 #[.int .i64 n, .func (.func f) #[] cap] ro (.int .i64 (firstP p n)) := by
  (refine Cr.ofP (l := _) Try.func82 Try.ntmps82 rfl rfl (by simp only [seval, List.length_cons, List.length_nil]) (by simp only [seval, List.length_cons, List.length_nil]) (fun F hF => ?_); simp only [Try.results82, List.map_cons, List.map_nil])
  subst hF
  repeat' (first | (with_reducible refine at_seq (by with_unfolding_all exact rfl) ?_) | ((with_reducible first | refine at_plain (by with_unfolding_all exact rfl) ?_ | refine at_cond (by with_unfolding_all exact rfl) ?_ | refine at_exit (by with_unfolding_all exact rfl) ?_ | refine at_ret (by with_unfolding_all exact rfl) ?_ | refine at_skip (by with_unfolding_all exact rfl) ?_ | refine at_label (by with_unfolding_all exact rfl) ?_) <;> try simp -implicitDefEqProofs (maxSteps := 1000000) only [go_sem, seval, *]) | (with_reducible first | refine at_block (by with_unfolding_all exact rfl) ?_ | refine at_loop (by with_unfolding_all exact rfl) ?_) | ((first | ((with_reducible refine NewK.intro fun g hg hn => ?_) <;> try simp only [own_none_iff] at hn) | ((with_reducible first | refine GuardB.split (fun hc => ?_) (fun hc => ?_) | refine CondK.split (fun hc => ?_) (fun hc => ?_) | refine PickK.split (fun hc => ?_) (fun hc => ?_) | refine GuardD.split (fun hc => ?_) (fun hc => ?_)) <;> (have hc2 := hc; try simp only [beq_eq_false_iff_ne, beq_iff_eq, ne_eq, bne_iff_ne, bne_eq_false_iff_eq, decide_eq_true_eq, decide_eq_false_iff_not, Bool.not_true, Bool.not_false, Int.not_le, Int.not_lt] at hc2)) | (with_reducible first | refine dop_buildSlice ?_ | refine dop_build ?_)) <;> simp -implicitDefEqProofs (maxSteps := 1000000) only [go_sem, seval, *]))
  refine DLoop.ind (ISr n f cap p) n ⟨0, n, _, ⟨by omega, by omega, by omega⟩, ⟨fun k h => by omega, fun k h1 h2 => by omega⟩, rfl, fl_re (by kernel_rfl)⟩ ?_
  (rintro k' a h ⟨i, j, x, fa0, fa1, rfl, rfl⟩)
  have hk := fa0.out
  have hI := fa1.out
  have hb' := hb.out
  by_cases hlt : i < j
  · have c1 : ((i : Int) < (j : Int)) = True := by simp only [eq_iff_iff, iff_true]; omega
    have w1 : IntKind.i64.wrap ((i : Int) + (j : Int)) = ((i + j : Nat) : Int) := by rw [IntWalk.i64_in _ (by omega)]; push_cast; rfl
    have w2 : IntKind.u64.wrap ((i + j : Nat) : Int) = ((i + j : Nat) : Int) := IntWalk.u64_in _ (by omega)
    have w3 : IntKind.i64.wrap (((i + j) / 2 : Nat) : Int) = (((i + j) / 2 : Nat) : Int) := IntWalk.i64_in _ (by omega)
    have w4 : IntKind.i64.wrap ((((i + j) / 2 : Nat) : Int) + 1) = (((i + j) / 2 + 1 : Nat) : Int) := by rw [IntWalk.i64_in _ (by omega)]; push_cast; rfl
    have w5 : ((i + j : Nat) : Int) / 2 ^ min 1 64 = (((i + j) / 2 : Nat) : Int) := by
      rw [show min 1 64 = 1 from rfl]
      omega
    have hp' : Cr Try.prog f (#[] ++ #[.int .i64 (((i + j) / 2 : Nat) : Int)] ++ cap) (Hp.none_.cell? F) (.bool (p ((i + j) / 2))) := by
      have := (hp.out ((i + j) / 2) (by omega)).mono (ro' := Hp.none_.cell? F) (fun a u e => Hp.cell_ro e)
      simpa using this
    replace hk := Hold.mk hk
    replace hI := Hold.mk hI
    clear fa0 fa1 hb'
    have lt2 : i ≤ (i + j) / 2 ∧ (i + j) / 2 < j := by omega
    cases hq : p ((i + j) / 2) with
    | true =>
      rw [hq] at hp'
      repeat' (first | (with_reducible refine at_seq (by with_unfolding_all exact rfl) ?_) | ((with_reducible first | refine at_plain (by with_unfolding_all exact rfl) ?_ | refine at_cond (by with_unfolding_all exact rfl) ?_ | refine at_exit (by with_unfolding_all exact rfl) ?_ | refine at_ret (by with_unfolding_all exact rfl) ?_ | refine at_skip (by with_unfolding_all exact rfl) ?_ | refine at_label (by with_unfolding_all exact rfl) ?_) <;> try simp -implicitDefEqProofs (maxSteps := 1000000) only [go_sem, seval, *]) | (with_reducible first | refine at_block (by with_unfolding_all exact rfl) ?_ | refine at_loop (by with_unfolding_all exact rfl) ?_) | ((first | (rw [dwp_callFunc hent]; simp -implicitDefEqProofs (maxSteps := 1000000) only [go_sem, seval, *]; refine Cr.call hp' ?_) | ((with_reducible refine NewK.intro fun g hg hn => ?_) <;> try simp only [own_none_iff] at hn) | ((with_reducible first | refine GuardB.split (fun hc => ?_) (fun hc => ?_) | refine CondK.split (fun hc => ?_) (fun hc => ?_) | refine PickK.split (fun hc => ?_) (fun hc => ?_) | refine GuardD.split (fun hc => ?_) (fun hc => ?_)) <;> (have hc2 := hc; try simp only [beq_eq_false_iff_ne, beq_iff_eq, ne_eq, bne_iff_ne, bne_eq_false_iff_eq, decide_eq_true_eq, decide_eq_false_iff_not, Bool.not_true, Bool.not_false, Int.not_le, Int.not_lt] at hc2)) | (with_reducible first | refine dop_buildSlice ?_ | refine dop_build ?_)) <;> simp -implicitDefEqProofs (maxSteps := 1000000) only [go_sem, seval, *]))
      have hk := hk.out
      exact LoopK.intro ((i + j) / 2 - i) (by omega) ⟨i, (i + j) / 2, _, ⟨by omega⟩, ⟨hI.out.1, fun k h1 h2 => hm.out _ k h1 h2 hq⟩, rfl, fl_re (by kernel_rfl)⟩
    | false =>
      rw [hq] at hp'
      repeat' (first | (with_reducible refine at_seq (by with_unfolding_all exact rfl) ?_) | ((with_reducible first | refine at_plain (by with_unfolding_all exact rfl) ?_ | refine at_cond (by with_unfolding_all exact rfl) ?_ | refine at_exit (by with_unfolding_all exact rfl) ?_ | refine at_ret (by with_unfolding_all exact rfl) ?_ | refine at_skip (by with_unfolding_all exact rfl) ?_ | refine at_label (by with_unfolding_all exact rfl) ?_) <;> try simp -implicitDefEqProofs (maxSteps := 1000000) only [go_sem, seval, *]) | (with_reducible first | refine at_block (by with_unfolding_all exact rfl) ?_ | refine at_loop (by with_unfolding_all exact rfl) ?_) | ((first | (rw [dwp_callFunc hent]; simp -implicitDefEqProofs (maxSteps := 1000000) only [go_sem, seval, *]; refine Cr.call hp' ?_) | ((with_reducible refine NewK.intro fun g hg hn => ?_) <;> try simp only [own_none_iff] at hn) | ((with_reducible first | refine GuardB.split (fun hc => ?_) (fun hc => ?_) | refine CondK.split (fun hc => ?_) (fun hc => ?_) | refine PickK.split (fun hc => ?_) (fun hc => ?_) | refine GuardD.split (fun hc => ?_) (fun hc => ?_)) <;> (have hc2 := hc; try simp only [beq_eq_false_iff_ne, beq_iff_eq, ne_eq, bne_iff_ne, bne_eq_false_iff_eq, decide_eq_true_eq, decide_eq_false_iff_not, Bool.not_true, Bool.not_false, Int.not_le, Int.not_lt] at hc2)) | (with_reducible first | refine dop_buildSlice ?_ | refine dop_build ?_)) <;> simp -implicitDefEqProofs (maxSteps := 1000000) only [go_sem, seval, *]))
      have hk := hk.out
      refine LoopK.intro (j - ((i + j) / 2 + 1)) (by omega) ⟨(i + j) / 2 + 1, j, _, ⟨by omega⟩, ⟨fun k h1 => ?_, hI.out.2⟩, rfl, fl_re (by kernel_rfl)⟩
      cases hpk : p k with
      | false => rfl
      | true =>
        have := hm.out k ((i + j) / 2) (by omega) (by omega) hpk
        rw [hq] at this
        cases this
  · have c1 : ((i : Int) < (j : Int)) = False := by simp only [eq_iff_iff, iff_false]; omega
    obtain rfl : i = j := by omega
    rw [firstP_eq hk.2.2 hI.1 (fun h => hI.2 i (Nat.le_refl _) h)]
    clear fa0 fa1 hk hI hb'
    repeat' (first | (with_reducible refine at_seq (by with_unfolding_all exact rfl) ?_) | ((with_reducible first | refine at_plain (by with_unfolding_all exact rfl) ?_ | refine at_cond (by with_unfolding_all exact rfl) ?_ | refine at_exit (by with_unfolding_all exact rfl) ?_ | refine at_ret (by with_unfolding_all exact rfl) ?_ | refine at_skip (by with_unfolding_all exact rfl) ?_ | refine at_label (by with_unfolding_all exact rfl) ?_) <;> try simp -implicitDefEqProofs (maxSteps := 1000000) only [go_sem, seval, *]) | (with_reducible first | refine at_block (by with_unfolding_all exact rfl) ?_ | refine at_loop (by with_unfolding_all exact rfl) ?_) | ((first | ((with_reducible refine NewK.intro fun g hg hn => ?_) <;> try simp only [own_none_iff] at hn) | ((with_reducible first | refine GuardB.split (fun hc => ?_) (fun hc => ?_) | refine CondK.split (fun hc => ?_) (fun hc => ?_) | refine PickK.split (fun hc => ?_) (fun hc => ?_) | refine GuardD.split (fun hc => ?_) (fun hc => ?_)) <;> (have hc2 := hc; try simp only [beq_eq_false_iff_ne, beq_iff_eq, ne_eq, bne_iff_ne, bne_eq_false_iff_eq, decide_eq_true_eq, decide_eq_false_iff_not, Bool.not_true, Bool.not_false, Int.not_le, Int.not_lt] at hc2)) | (with_reducible first | refine dop_buildSlice ?_ | refine dop_build ?_)) <;> simp -implicitDefEqProofs (maxSteps := 1000000) only [go_sem, seval, *]))

end Go.Proofs.Ytlbpfmnobapidaa
