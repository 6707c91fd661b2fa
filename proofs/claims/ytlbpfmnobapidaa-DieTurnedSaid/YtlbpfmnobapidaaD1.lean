/-
  Walks. Conditions: none.
-/
import Derived.Test.YtlbpfmnobapidaaPa
import Derived.Test.YtlbpfmnobapidaaS24
set_option linter.unusedVariables false
set_option linter.unusedSimpArgs false
namespace Go.Proofs.Ytlbpfmnobapidaa
open Go.RowKit Go.SL
set_option maxHeartbeats 1000000
set_option maxRecDepth 1000000
attribute [local go_sem] fl_getD fl_get fl_set lk_def st_def gL_nil gL_zero gL_succ sL_nil_zero sL_nil_succ sL_zero sL_succ Option.getD_none FgK_app onlyL_nil onlyL_none onlyL_some setO_some toB_bool toB_undef yl_def
attribute [local go_sem high] GuardK_yl GuardL_yl
attribute [local go_sem] i64w
attribute [local go_sem] add_none
/-- A span is valid. -/
def spB (x y lo hi : Int) : Bool := decide (lo ≤ hi) && allI x y [lo, hi]
theorem spB_iff {x y lo hi : Int} : spB x y lo hi = true ↔ x ≤ lo ∧ lo ≤ hi ∧ hi ≤ y := by
  unfold spB; simp [allI]; omega
theorem spB_iff' {x y lo hi : Int} : spB x y lo hi = false ↔ ¬ (x ≤ lo ∧ lo ≤ hi ∧ hi ≤ y) := by
  rw [← spB_iff]; simp
def spC (w : Int × Int) : List Value := [.int .i64 w.1, .int .i64 w.2]
theorem spC_len (w : Int × Int) : (spC w).length = 2 := rfl
def IXi (p : Option Addr) (n c f : Nat) (cap : Array Value) (q : Int → Bool) (xs : List Int) (k' : Nat) (a : Act) (h : Hp) : Prop :=
  ∃ (i : Nat) (x : Nat → Value), Hold (i + k' = n) ∧ Hold (idxI q xs 0 = idxI q (xs.drop i) i) ∧ h = Hp.none_ ∧ a = ⟨fl 19 x [[some (.slice p n c), some (.func (.func f) #[] cap), none, none, some (.int .i64 0), none, some (.slice p n c), some (.int .i64 n), some (.int .i64 i)]], []⟩
theorem intsF (xs : List Int) : ints xs = xs.flatMap fun x => [.int .i64 x] := by
  induction xs with
  | nil => rfl
  | cons x r ih => rw [List.flatMap_cons, ← ih]; rfl
theorem indexInt_ok (ro : Addr → Option Value) (p : Option Addr) (n c f : Nat) (cap : Array Value) (q : Int → Bool) (xs : List Int) (hx : Hold (RdS ro p n 1 (ints xs))) (hn : Hold (n < 9223372036854775808)) (hent : entB Try.prog f = true)
    (hp : Hold (∀ x, Cr Try.prog f (#[.int .i64 x] ++ cap) ro (.bool (q x)))) :
    Cr Try.prog 104 #[.slice p n c, .func (.func f) #[] cap] ro (.int .i64 (idxI q xs 0)) := by
  (refine Cr.ofP (l := _) Try.func104 Try.ntmps104 rfl rfl (by simp only [seval, List.length_cons, List.length_nil]) (by simp only [seval, List.length_cons, List.length_nil]) (fun F hF => ?_); simp only [Try.results104, List.map_cons, List.map_nil])
  subst hF
  repeat' (first | (with_reducible refine at_seq (by with_unfolding_all exact rfl) ?_) | ((with_reducible first | refine at_plain (by with_unfolding_all exact rfl) ?_ | refine at_cond (by with_unfolding_all exact rfl) ?_ | refine at_exit (by with_unfolding_all exact rfl) ?_ | refine at_ret (by with_unfolding_all exact rfl) ?_ | refine at_skip (by with_unfolding_all exact rfl) ?_ | refine at_label (by with_unfolding_all exact rfl) ?_) <;> try simp -implicitDefEqProofs (maxSteps := 1000000) only [go_sem, seval, *]) | (with_reducible first | refine at_block (by with_unfolding_all exact rfl) ?_ | refine at_loop (by with_unfolding_all exact rfl) ?_) | ((first | ((with_reducible refine NewK.intro fun g hg hn => ?_) <;> try simp only [own_none_iff] at hn) | ((with_reducible first | refine GuardB.split (fun hc => ?_) (fun hc => ?_) | refine CondK.split (fun hc => ?_) (fun hc => ?_) | refine PickK.split (fun hc => ?_) (fun hc => ?_) | refine GuardD.split (fun hc => ?_) (fun hc => ?_)) <;> (have hc2 := hc; try simp only [beq_eq_false_iff_ne, beq_iff_eq, ne_eq, bne_iff_ne, bne_eq_false_iff_eq, decide_eq_true_eq, decide_eq_false_iff_not, Bool.not_true, Bool.not_false, Int.not_le, Int.not_lt] at hc2)) | (with_reducible first | refine dop_buildSlice ?_ | refine dop_build ?_)) <;> simp -implicitDefEqProofs (maxSteps := 1000000) only [go_sem, seval, *]))
  refine DLoop.ind (IXi p n c f cap q xs) n ⟨0, _, ⟨by omega⟩, ⟨by simp⟩, rfl, fl_re (by kernel_rfl)⟩ ?_
  (rintro k' a h ⟨i, x, fa0, fa1, rfl, rfl⟩)
  have hk := fa0.out
  have hI := fa1.out
  have hlen := hx.out.len
  rw [ints_len, Nat.mul_one] at hlen
  have hb := hn.out
  by_cases hlt : i < n
  · have i0 : (0 : Int) ≤ (i : Int) := by omega
    have i1 : ((i : Int) < (n : Int)) = True := by simp only [eq_iff_iff, iff_true]; omega
    have iw : IntKind.i64.wrap ((i : Int) + 1) = ((i + 1 : Nat) : Int) := by rw [IntWalk.i64_in _ (by omega)]; push_cast; rfl
    have hxi : xs[i]? = some xs[i] := List.getElem?_eq_getElem (by omega)
    have hx' := hx.out
    rw [intsF] at hx'
    obtain ⟨b, off, rfl, hro⟩ := hx'.at (f := fun x : Int => [Value.int .i64 x]) (fun _ => rfl) hlt hxi
    have r0 := hro 0 _ rfl
    rw [Nat.mul_one, Nat.add_zero] at r0
    clear hro hx'
    have hd : xs.drop i = xs[i] :: xs.drop (i + 1) := List.drop_eq_getElem_cons (by omega)
    rw [hd, idxI] at hI
    generalize xs[i] = x at *
    have hp' : Cr Try.prog f (#[] ++ #[.int .i64 x] ++ cap) (Hp.none_.cell? F) (.bool (q x)) := by
      have := (hp.out x).mono (ro' := Hp.none_.cell? F) (fun a u e => Hp.cell_ro e)
      simpa using this
    replace hk := Hold.mk hk
    replace hI := Hold.mk hI
    clear hxi hd hlen hb fa0 fa1 hx hp
    cases hq : q x with
    | true =>
      rw [hq] at hp' hI
      repeat' (first | (with_reducible refine at_seq (by with_unfolding_all exact rfl) ?_) | ((with_reducible first | refine at_plain (by with_unfolding_all exact rfl) ?_ | refine at_cond (by with_unfolding_all exact rfl) ?_ | refine at_exit (by with_unfolding_all exact rfl) ?_ | refine at_ret (by with_unfolding_all exact rfl) ?_ | refine at_skip (by with_unfolding_all exact rfl) ?_ | refine at_label (by with_unfolding_all exact rfl) ?_) <;> try simp -implicitDefEqProofs (maxSteps := 1000000) only [go_sem, seval, *]) | (with_reducible first | refine at_block (by with_unfolding_all exact rfl) ?_ | refine at_loop (by with_unfolding_all exact rfl) ?_) | ((first | (rw [dwp_callFunc hent]; simp -implicitDefEqProofs (maxSteps := 1000000) only [go_sem, seval, *]; refine Cr.call hp' ?_) | ((with_reducible refine NewK.intro fun g hg hn => ?_) <;> try simp only [own_none_iff] at hn) | ((with_reducible first | refine GuardB.split (fun hc => ?_) (fun hc => ?_) | refine CondK.split (fun hc => ?_) (fun hc => ?_) | refine PickK.split (fun hc => ?_) (fun hc => ?_) | refine GuardD.split (fun hc => ?_) (fun hc => ?_)) <;> (have hc2 := hc; try simp only [beq_eq_false_iff_ne, beq_iff_eq, ne_eq, bne_iff_ne, bne_eq_false_iff_eq, decide_eq_true_eq, decide_eq_false_iff_not, Bool.not_true, Bool.not_false, Int.not_le, Int.not_lt] at hc2)) | (with_reducible first | refine dop_buildSlice ?_ | refine dop_build ?_)) <;> simp -implicitDefEqProofs (maxSteps := 1000000) only [go_sem, seval, *]))
      have := hI.out
      rw [if_pos rfl] at this
      rw [this]
    | false =>
      rw [hq] at hp' hI
      repeat' (first | (with_reducible refine at_seq (by with_unfolding_all exact rfl) ?_) | ((with_reducible first | refine at_plain (by with_unfolding_all exact rfl) ?_ | refine at_cond (by with_unfolding_all exact rfl) ?_ | refine at_exit (by with_unfolding_all exact rfl) ?_ | refine at_ret (by with_unfolding_all exact rfl) ?_ | refine at_skip (by with_unfolding_all exact rfl) ?_ | refine at_label (by with_unfolding_all exact rfl) ?_) <;> try simp -implicitDefEqProofs (maxSteps := 1000000) only [go_sem, seval, *]) | (with_reducible first | refine at_block (by with_unfolding_all exact rfl) ?_ | refine at_loop (by with_unfolding_all exact rfl) ?_) | ((first | (rw [dwp_callFunc hent]; simp -implicitDefEqProofs (maxSteps := 1000000) only [go_sem, seval, *]; refine Cr.call hp' ?_) | ((with_reducible refine NewK.intro fun g hg hn => ?_) <;> try simp only [own_none_iff] at hn) | ((with_reducible first | refine GuardB.split (fun hc => ?_) (fun hc => ?_) | refine CondK.split (fun hc => ?_) (fun hc => ?_) | refine PickK.split (fun hc => ?_) (fun hc => ?_) | refine GuardD.split (fun hc => ?_) (fun hc => ?_)) <;> (have hc2 := hc; try simp only [beq_eq_false_iff_ne, beq_iff_eq, ne_eq, bne_iff_ne, bne_eq_false_iff_eq, decide_eq_true_eq, decide_eq_false_iff_not, Bool.not_true, Bool.not_false, Int.not_le, Int.not_lt] at hc2)) | (with_reducible first | refine dop_buildSlice ?_ | refine dop_build ?_)) <;> simp -implicitDefEqProofs (maxSteps := 1000000) only [go_sem, seval, *]))
      have hk := hk.out
      exact LoopK.intro (k' - 1) (by omega) ⟨i + 1, _, ⟨by omega⟩, ⟨by have := hI.out; rw [if_neg (by simp)] at this; rw [this]; push_cast; rfl⟩, rfl, fl_re (by kernel_rfl)⟩
  · have i1 : ((i : Int) < (n : Int)) = False := by simp only [eq_iff_iff, iff_false]; omega
    rw [List.drop_eq_nil_of_le (by omega), idxI] at hI
    clear fa0 fa1 hk hlen hb hx hp
    replace hI := Hold.mk hI
    repeat' (first | (with_reducible refine at_seq (by with_unfolding_all exact rfl) ?_) | ((with_reducible first | refine at_plain (by with_unfolding_all exact rfl) ?_ | refine at_cond (by with_unfolding_all exact rfl) ?_ | refine at_exit (by with_unfolding_all exact rfl) ?_ | refine at_ret (by with_unfolding_all exact rfl) ?_ | refine at_skip (by with_unfolding_all exact rfl) ?_ | refine at_label (by with_unfolding_all exact rfl) ?_) <;> try simp -implicitDefEqProofs (maxSteps := 1000000) only [go_sem, seval, *]) | (with_reducible first | refine at_block (by with_unfolding_all exact rfl) ?_ | refine at_loop (by with_unfolding_all exact rfl) ?_) | ((first | ((with_reducible refine NewK.intro fun g hg hn => ?_) <;> try simp only [own_none_iff] at hn) | ((with_reducible first | refine GuardB.split (fun hc => ?_) (fun hc => ?_) | refine CondK.split (fun hc => ?_) (fun hc => ?_) | refine PickK.split (fun hc => ?_) (fun hc => ?_) | refine GuardD.split (fun hc => ?_) (fun hc => ?_)) <;> (have hc2 := hc; try simp only [beq_eq_false_iff_ne, beq_iff_eq, ne_eq, bne_iff_ne, bne_eq_false_iff_eq, decide_eq_true_eq, decide_eq_false_iff_not, Bool.not_true, Bool.not_false, Int.not_le, Int.not_lt] at hc2)) | (with_reducible first | refine dop_buildSlice ?_ | refine dop_build ?_)) <;> simp -implicitDefEqProofs (maxSteps := 1000000) only [go_sem, seval, *]))
    rw [hI.out]
def IXs (p : Option Addr) (n c f : Nat) (cap : Array Value) (q : Int × Int → Bool) (xs : List (Int × Int)) (k' : Nat) (a : Act) (h : Hp) : Prop :=
  ∃ (i : Nat) (x : Nat → Value), Hold (i + k' = n) ∧ Hold (idxL q xs 0 = idxL q (xs.drop i) i) ∧ h = Hp.none_ ∧ a = ⟨fl 19 x [[some (.slice p n c), some (.func (.func f) #[] cap), none, none, some (.int .i64 0), none, some (.slice p n c), some (.int .i64 n), some (.int .i64 i)]], []⟩
theorem indexSp_ok (ro : Addr → Option Value) (p : Option Addr) (n c f : Nat) (cap : Array Value) (q : Int × Int → Bool) (xs : List (Int × Int)) (hx : Hold (RdS ro p n 2 (xs.flatMap spC))) (hn : Hold (n < 9223372036854775808)) (hent : entB Try.prog f = true)
    (hp : Hold (∀ x : Int × Int, Cr Try.prog f (#[.agg #[.int .i64 x.1, .int .i64 x.2]] ++ cap) ro (.bool (q x)))) :
    Cr Try.prog 103 #[.slice p n c, .func (.func f) #[] cap] ro (.int .i64 (idxL q xs 0)) := by
  (refine Cr.ofP (l := _) Try.func103 Try.ntmps103 rfl rfl (by simp only [seval, List.length_cons, List.length_nil]) (by simp only [seval, List.length_cons, List.length_nil]) (fun F hF => ?_); simp only [Try.results103, List.map_cons, List.map_nil])
  subst hF
  repeat' (first | (with_reducible refine at_seq (by with_unfolding_all exact rfl) ?_) | ((with_reducible first | refine at_plain (by with_unfolding_all exact rfl) ?_ | refine at_cond (by with_unfolding_all exact rfl) ?_ | refine at_exit (by with_unfolding_all exact rfl) ?_ | refine at_ret (by with_unfolding_all exact rfl) ?_ | refine at_skip (by with_unfolding_all exact rfl) ?_ | refine at_label (by with_unfolding_all exact rfl) ?_) <;> try simp -implicitDefEqProofs (maxSteps := 1000000) only [go_sem, seval, *]) | (with_reducible first | refine at_block (by with_unfolding_all exact rfl) ?_ | refine at_loop (by with_unfolding_all exact rfl) ?_) | ((first | ((with_reducible refine NewK.intro fun g hg hn => ?_) <;> try simp only [own_none_iff] at hn) | ((with_reducible first | refine GuardB.split (fun hc => ?_) (fun hc => ?_) | refine CondK.split (fun hc => ?_) (fun hc => ?_) | refine PickK.split (fun hc => ?_) (fun hc => ?_) | refine GuardD.split (fun hc => ?_) (fun hc => ?_)) <;> (have hc2 := hc; try simp only [beq_eq_false_iff_ne, beq_iff_eq, ne_eq, bne_iff_ne, bne_eq_false_iff_eq, decide_eq_true_eq, decide_eq_false_iff_not, Bool.not_true, Bool.not_false, Int.not_le, Int.not_lt] at hc2)) | (with_reducible first | refine dop_buildSlice ?_ | refine dop_build ?_)) <;> simp -implicitDefEqProofs (maxSteps := 1000000) only [go_sem, seval, *]))
  refine DLoop.ind (IXs p n c f cap q xs) n ⟨0, _, ⟨by omega⟩, ⟨by simp⟩, rfl, fl_re (by kernel_rfl)⟩ ?_
  (rintro k' a h ⟨i, x, fa0, fa1, rfl, rfl⟩)
  have hk := fa0.out
  have hI := fa1.out
  have hlen := hx.out.count spC_len (by decide)
  have hb := hn.out
  by_cases hlt : i < n
  · have i0 : (0 : Int) ≤ (i : Int) := by omega
    have i1 : ((i : Int) < (n : Int)) = True := by simp only [eq_iff_iff, iff_true]; omega
    have iw : IntKind.i64.wrap ((i : Int) + 1) = ((i + 1 : Nat) : Int) := by rw [IntWalk.i64_in _ (by omega)]; push_cast; rfl
    have hxi : xs[i]? = some xs[i] := List.getElem?_eq_getElem (by omega)
    obtain ⟨b, off, rfl, hro⟩ := hx.out.at spC_len hlt hxi
    have r0 := hro 0 _ rfl
    have r1 := hro 1 _ rfl
    rw [Nat.add_zero] at r0
    clear hro
    have hd : xs.drop i = xs[i] :: xs.drop (i + 1) := List.drop_eq_getElem_cons (by omega)
    rw [hd, idxL] at hI
    generalize xs[i] = x at *
    have hp' : Cr Try.prog f (#[] ++ #[.agg #[.int .i64 x.1, .int .i64 x.2]] ++ cap) (Hp.none_.cell? F) (.bool (q x)) := by
      have := (hp.out x).mono (ro' := Hp.none_.cell? F) (fun a u e => Hp.cell_ro e)
      simpa using this
    replace hk := Hold.mk hk
    replace hI := Hold.mk hI
    clear hxi hd hlen hb fa0 fa1 hx hp
    cases hq : q x with
    | true =>
      rw [hq] at hp' hI
      repeat' (first | (with_reducible refine at_seq (by with_unfolding_all exact rfl) ?_) | ((with_reducible first | refine at_plain (by with_unfolding_all exact rfl) ?_ | refine at_cond (by with_unfolding_all exact rfl) ?_ | refine at_exit (by with_unfolding_all exact rfl) ?_ | refine at_ret (by with_unfolding_all exact rfl) ?_ | refine at_skip (by with_unfolding_all exact rfl) ?_ | refine at_label (by with_unfolding_all exact rfl) ?_) <;> try simp -implicitDefEqProofs (maxSteps := 1000000) only [go_sem, seval, *]) | (with_reducible first | refine at_block (by with_unfolding_all exact rfl) ?_ | refine at_loop (by with_unfolding_all exact rfl) ?_) | ((first | (rw [dwp_callFunc hent]; simp -implicitDefEqProofs (maxSteps := 1000000) only [go_sem, seval, *]; refine Cr.call hp' ?_) | ((with_reducible refine NewK.intro fun g hg hn => ?_) <;> try simp only [own_none_iff] at hn) | ((with_reducible first | refine GuardB.split (fun hc => ?_) (fun hc => ?_) | refine CondK.split (fun hc => ?_) (fun hc => ?_) | refine PickK.split (fun hc => ?_) (fun hc => ?_) | refine GuardD.split (fun hc => ?_) (fun hc => ?_)) <;> (have hc2 := hc; try simp only [beq_eq_false_iff_ne, beq_iff_eq, ne_eq, bne_iff_ne, bne_eq_false_iff_eq, decide_eq_true_eq, decide_eq_false_iff_not, Bool.not_true, Bool.not_false, Int.not_le, Int.not_lt] at hc2)) | (with_reducible first | refine dop_buildSlice ?_ | refine dop_build ?_)) <;> simp -implicitDefEqProofs (maxSteps := 1000000) only [go_sem, seval, *]))
      have := hI.out
      rw [if_pos rfl] at this
      rw [this]
    | false =>
      rw [hq] at hp' hI
      repeat' (first | (with_reducible refine at_seq (by with_unfolding_all exact rfl) ?_) | ((with_reducible first | refine at_plain (by with_unfolding_all exact rfl) ?_ | refine at_cond (by with_unfolding_all exact rfl) ?_ | refine at_exit (by with_unfolding_all exact rfl) ?_ | refine at_ret (by with_unfolding_all exact rfl) ?_ | refine at_skip (by with_unfolding_all exact rfl) ?_ | refine at_label (by with_unfolding_all exact rfl) ?_) <;> try simp -implicitDefEqProofs (maxSteps := 1000000) only [go_sem, seval, *]) | (with_reducible first | refine at_block (by with_unfolding_all exact rfl) ?_ | refine at_loop (by with_unfolding_all exact rfl) ?_) | ((first | (rw [dwp_callFunc hent]; simp -implicitDefEqProofs (maxSteps := 1000000) only [go_sem, seval, *]; refine Cr.call hp' ?_) | ((with_reducible refine NewK.intro fun g hg hn => ?_) <;> try simp only [own_none_iff] at hn) | ((with_reducible first | refine GuardB.split (fun hc => ?_) (fun hc => ?_) | refine CondK.split (fun hc => ?_) (fun hc => ?_) | refine PickK.split (fun hc => ?_) (fun hc => ?_) | refine GuardD.split (fun hc => ?_) (fun hc => ?_)) <;> (have hc2 := hc; try simp only [beq_eq_false_iff_ne, beq_iff_eq, ne_eq, bne_iff_ne, bne_eq_false_iff_eq, decide_eq_true_eq, decide_eq_false_iff_not, Bool.not_true, Bool.not_false, Int.not_le, Int.not_lt] at hc2)) | (with_reducible first | refine dop_buildSlice ?_ | refine dop_build ?_)) <;> simp -implicitDefEqProofs (maxSteps := 1000000) only [go_sem, seval, *]))
      have hk := hk.out
      exact LoopK.intro (k' - 1) (by omega) ⟨i + 1, _, ⟨by omega⟩, ⟨by have := hI.out; rw [if_neg (by simp)] at this; rw [this]; push_cast; rfl⟩, rfl, fl_re (by kernel_rfl)⟩
  · have i1 : ((i : Int) < (n : Int)) = False := by simp only [eq_iff_iff, iff_false]; omega
    rw [List.drop_eq_nil_of_le (by omega), idxL] at hI
    clear fa0 fa1 hk hlen hb hx hp
    replace hI := Hold.mk hI
    repeat' (first | (with_reducible refine at_seq (by with_unfolding_all exact rfl) ?_) | ((with_reducible first | refine at_plain (by with_unfolding_all exact rfl) ?_ | refine at_cond (by with_unfolding_all exact rfl) ?_ | refine at_exit (by with_unfolding_all exact rfl) ?_ | refine at_ret (by with_unfolding_all exact rfl) ?_ | refine at_skip (by with_unfolding_all exact rfl) ?_ | refine at_label (by with_unfolding_all exact rfl) ?_) <;> try simp -implicitDefEqProofs (maxSteps := 1000000) only [go_sem, seval, *]) | (with_reducible first | refine at_block (by with_unfolding_all exact rfl) ?_ | refine at_loop (by with_unfolding_all exact rfl) ?_) | ((first | ((with_reducible refine NewK.intro fun g hg hn => ?_) <;> try simp only [own_none_iff] at hn) | ((with_reducible first | refine GuardB.split (fun hc => ?_) (fun hc => ?_) | refine CondK.split (fun hc => ?_) (fun hc => ?_) | refine PickK.split (fun hc => ?_) (fun hc => ?_) | refine GuardD.split (fun hc => ?_) (fun hc => ?_)) <;> (have hc2 := hc; try simp only [beq_eq_false_iff_ne, beq_iff_eq, ne_eq, bne_iff_ne, bne_eq_false_iff_eq, decide_eq_true_eq, decide_eq_false_iff_not, Bool.not_true, Bool.not_false, Int.not_le, Int.not_lt] at hc2)) | (with_reducible first | refine dop_buildSlice ?_ | refine dop_build ?_)) <;> simp -implicitDefEqProofs (maxSteps := 1000000) only [go_sem, seval, *]))
    rw [hI.out]
theorem containsInt_ok (ro : Addr → Option Value) (p : Option Addr) (n c f : Nat) (cap : Array Value) (q : Int → Bool) (xs : List Int) (hx : Hold (RdS ro p n 1 (ints xs))) (hn : Hold (n < 9223372036854775808)) (hent : entB Try.prog f = true)
    (hp : Hold (∀ x, Cr Try.prog f (#[.int .i64 x] ++ cap) ro (.bool (q x)))) :
    Cr Try.prog 90 #[.slice p n c, .func (.func f) #[] cap] ro (.bool (xs.any q)) := by
  rw [← idxI_ge q xs 0 (by omega)]
  (refine Cr.ofP (l := _) Try.func90 Try.ntmps90 rfl rfl (by simp only [seval, List.length_cons, List.length_nil]) (by simp only [seval, List.length_cons, List.length_nil]) (fun F hF => ?_); simp only [Try.results90, List.map_cons, List.map_nil])
  subst hF
  repeat' (first | (with_reducible refine at_seq (by with_unfolding_all exact rfl) ?_) | ((with_reducible first | refine at_plain (by with_unfolding_all exact rfl) ?_ | refine at_cond (by with_unfolding_all exact rfl) ?_ | refine at_exit (by with_unfolding_all exact rfl) ?_ | refine at_ret (by with_unfolding_all exact rfl) ?_ | refine at_skip (by with_unfolding_all exact rfl) ?_ | refine at_label (by with_unfolding_all exact rfl) ?_) <;> try simp -implicitDefEqProofs (maxSteps := 1000000) only [go_sem, seval, *]) | (with_reducible first | refine at_block (by with_unfolding_all exact rfl) ?_ | refine at_loop (by with_unfolding_all exact rfl) ?_) | ((first | ((with_reducible refine NewK.intro fun g hg hn => ?_) <;> try simp only [own_none_iff] at hn) | ((with_reducible first | refine GuardB.split (fun hc => ?_) (fun hc => ?_) | refine CondK.split (fun hc => ?_) (fun hc => ?_) | refine PickK.split (fun hc => ?_) (fun hc => ?_) | refine GuardD.split (fun hc => ?_) (fun hc => ?_)) <;> (have hc2 := hc; try simp only [beq_eq_false_iff_ne, beq_iff_eq, ne_eq, bne_iff_ne, bne_eq_false_iff_eq, decide_eq_true_eq, decide_eq_false_iff_not, Bool.not_true, Bool.not_false, Int.not_le, Int.not_lt] at hc2)) | (with_reducible first | refine dop_buildSlice ?_ | refine dop_build ?_) | ((with_reducible refine Cr.call (f := 104) (indexInt_ok _ _ _ _ _ _ q xs ⟨hx.out.mono (fun a u e => Hp.cell_ro e)⟩ hn hent ⟨fun x => (hp.out x).mono (fun a u e => Hp.cell_ro e)⟩) ?_)) | (with_reducible refine CallV.of (f := 104) (indexInt_ok _ _ _ _ _ _ q xs ⟨hx.out.mono (fun a u e => Hp.cell_ro e)⟩ hn hent ⟨fun x => (hp.out x).mono (fun a u e => Hp.cell_ro e)⟩) ni104 ?_)) <;> simp -implicitDefEqProofs (maxSteps := 1000000) only [go_sem, seval, *]))
theorem containsSp_ok (ro : Addr → Option Value) (p : Option Addr) (n c f : Nat) (cap : Array Value) (q : Int × Int → Bool) (xs : List (Int × Int)) (hx : Hold (RdS ro p n 2 (xs.flatMap spC))) (hn : Hold (n < 9223372036854775808)) (hent : entB Try.prog f = true)
    (hp : Hold (∀ x : Int × Int, Cr Try.prog f (#[.agg #[.int .i64 x.1, .int .i64 x.2]] ++ cap) ro (.bool (q x)))) :
    Cr Try.prog 88 #[.slice p n c, .func (.func f) #[] cap] ro (.bool (xs.any q)) := by
  rw [← idxL_ge q xs 0 (by omega)]
  (refine Cr.ofP (l := _) Try.func88 Try.ntmps88 rfl rfl (by simp only [seval, List.length_cons, List.length_nil]) (by simp only [seval, List.length_cons, List.length_nil]) (fun F hF => ?_); simp only [Try.results88, List.map_cons, List.map_nil])
  subst hF
  repeat' (first | (with_reducible refine at_seq (by with_unfolding_all exact rfl) ?_) | ((with_reducible first | refine at_plain (by with_unfolding_all exact rfl) ?_ | refine at_cond (by with_unfolding_all exact rfl) ?_ | refine at_exit (by with_unfolding_all exact rfl) ?_ | refine at_ret (by with_unfolding_all exact rfl) ?_ | refine at_skip (by with_unfolding_all exact rfl) ?_ | refine at_label (by with_unfolding_all exact rfl) ?_) <;> try simp -implicitDefEqProofs (maxSteps := 1000000) only [go_sem, seval, *]) | (with_reducible first | refine at_block (by with_unfolding_all exact rfl) ?_ | refine at_loop (by with_unfolding_all exact rfl) ?_) | ((first | ((with_reducible refine NewK.intro fun g hg hn => ?_) <;> try simp only [own_none_iff] at hn) | ((with_reducible first | refine GuardB.split (fun hc => ?_) (fun hc => ?_) | refine CondK.split (fun hc => ?_) (fun hc => ?_) | refine PickK.split (fun hc => ?_) (fun hc => ?_) | refine GuardD.split (fun hc => ?_) (fun hc => ?_)) <;> (have hc2 := hc; try simp only [beq_eq_false_iff_ne, beq_iff_eq, ne_eq, bne_iff_ne, bne_eq_false_iff_eq, decide_eq_true_eq, decide_eq_false_iff_not, Bool.not_true, Bool.not_false, Int.not_le, Int.not_lt] at hc2)) | (with_reducible first | refine dop_buildSlice ?_ | refine dop_build ?_) | ((with_reducible refine Cr.call (f := 103) (indexSp_ok _ _ _ _ _ _ q xs ⟨hx.out.mono (fun a u e => Hp.cell_ro e)⟩ hn hent ⟨fun x => (hp.out x).mono (fun a u e => Hp.cell_ro e)⟩) ?_)) | (with_reducible refine CallV.of (f := 103) (indexSp_ok _ _ _ _ _ _ q xs ⟨hx.out.mono (fun a u e => Hp.cell_ro e)⟩ hn hent ⟨fun x => (hp.out x).mono (fun a u e => Hp.cell_ro e)⟩) ni103 ?_)) <;> simp -implicitDefEqProofs (maxSteps := 1000000) only [go_sem, seval, *]))

end Go.Proofs.Ytlbpfmnobapidaa
