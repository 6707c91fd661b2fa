/-
  Walks. Conditions: none.
-/
import Derived.Test.YtlbpfmnobapidaaD18
set_option linter.unusedVariables false
set_option linter.unusedSimpArgs false
namespace Go.Proofs.Ytlbpfmnobapidaa
open Go.RowKit Go.SL
set_option maxHeartbeats 1000000
set_option maxRecDepth 1000000
attribute [local go_sem] fl_getD fl_get fl_set lk_def st_def gL_nil gL_zero gL_succ sL_nil_zero sL_nil_succ sL_zero sL_succ Option.getD_none FgK_app onlyL_nil onlyL_none onlyL_some setO_some toB_bool toB_undef yl_def
attribute [local go_sem high] GuardK_yl GuardL_yl
attribute [local go_sem] initL_one initL_cons lastL_one lastL_cons LastK_app fin_round Fr.inr_w0 Fr.inr_ro Fr.inr_M cell_inr LoopO_some YieldK_some RoundQ_normal RoundQ_ret RoundQ_exit EndR_none EndR_some BegK_app BegR_some OutR_none OutR_ret OutR_exit LeftR_some LeftK_app
attribute [local go_sem] i64w
attribute [local go_sem] dwp_eqGuardE dwp_eqGuardN rval_eqGuardE rval_eqGuardN
attribute [local go_sem] add_none dwp_eqlSl
theorem isPlan1_ok (ro : Addr → Option Value) (a b : Int) : Cr Try.prog 97 #[.agg #[.int .i64 a, .int .i64 b]] ro (.bool (!tgB b)) := by
  (refine Cr.ofP (l := _) Try.func97 Try.ntmps97 rfl rfl (by simp only [seval, List.length_cons, List.length_nil]) (by simp only [seval, List.length_cons, List.length_nil]) (fun F hF => ?_); simp only [Try.results97, List.map_cons, List.map_nil])
  subst hF
  repeat' (first | (with_reducible refine at_seq (by with_unfolding_all exact rfl) ?_) | ((with_reducible first | refine at_plain (by with_unfolding_all exact rfl) ?_ | refine at_cond (by with_unfolding_all exact rfl) ?_ | refine at_exit (by with_unfolding_all exact rfl) ?_ | refine at_ret (by with_unfolding_all exact rfl) ?_ | refine at_skip (by with_unfolding_all exact rfl) ?_ | refine at_label (by with_unfolding_all exact rfl) ?_) <;> try simp -implicitDefEqProofs (maxSteps := 1000000) only [go_sem, seval, *]) | (with_reducible first | refine at_block (by with_unfolding_all exact rfl) ?_ | refine at_loop (by with_unfolding_all exact rfl) ?_) | ((first | ((with_reducible refine NewK.intro fun g hg hn => ?_) <;> try simp only [own_none_iff] at hn) | ((with_reducible first | refine GuardB.split (fun hc => ?_) (fun hc => ?_) | refine CondK.split (fun hc => ?_) (fun hc => ?_) | refine PickK.split (fun hc => ?_) (fun hc => ?_) | refine GuardD.split (fun hc => ?_) (fun hc => ?_)) <;> (have hc2 := hc; try simp only [beq_eq_false_iff_ne, beq_iff_eq, ne_eq, bne_iff_ne, bne_eq_false_iff_eq, decide_eq_true_eq, decide_eq_false_iff_not, Bool.not_true, Bool.not_false, Int.not_le, Int.not_lt] at hc2)) | (with_reducible first | refine dop_buildSlice ?_ | refine dop_build ?_) | ((with_reducible refine Cr.call (f := 98) (isTarget_ok _ _) ?_)) | (with_reducible refine CallV.of (f := 98) (isTarget_ok _ _) ni98 ?_)) <;> simp -implicitDefEqProofs (maxSteps := 1000000) only [go_sem, seval, *]))
theorem ent_isPlan1 : entB Try.prog 97 = true := by unfold entB; rw [Try.func97]; rfl
/-- A valid plan. -/
structure PlanOk (A : Nat) (pl : List (Int × Int)) : Prop where
  asc : Asc (pl.map Prod.fst)
  inn : allI 0 ((A : Int) - 1) (pl.map Prod.fst) = true
  tg : ∀ x ∈ pl, tgB x.2 = true
def IPl (gs np cp : Nat) (pp : Option Addr) (pl : List (Int × Int)) (F : Fr) (k' : Nat) (a : Act) (h : Hp) : Prop :=
  ∃ (i : Nat) (v : Value) (x : Nat → Value), Hold (i + k' = np) ∧ Own F h 3 1 v i (ints ((pl.map Prod.fst).take i)) ∧ a = ⟨fl 28 x [[some (.pointer (some ⟨gs, 0, none⟩)), some (.slice pp np cp), none, none, none, some (v), none, none, some (.slice pp np cp), some (.int .i64 np), some (.int .i64 i)]], []⟩
set_option maxHeartbeats 4000000 in
theorem isPlan_ok (ro : Addr → Option Value) (gs : Nat) (s0 s1 c0 c1 : Int) (pw : Option Addr) (nw cw : Nat) (po : Option Addr) (no co : Nat) (pf : Option Addr) (cf : Nat) (dn : Bool) (ws : List (Int × Int)) (os : List Ord) (pp : Option Addr) (np cp : Nat) (pl : List (Int × Int)) (hS : ShopR ro gs s0 s1 c0 c1 pw nw cw po no co pf cf dn ws os) (hV : Hold (ShopB s0 s1 c0 c1 nw no ws os)) (hx : RdS ro pp np 2 (pl.flatMap spC)) (hN : Hold (1 ≤ np ∧ np ≤ 1000)) (hP : Hold (PlanOk (allN os) pl)) :
    Cr Try.prog 75 #[.pointer (some ⟨gs, 0, none⟩), .slice pp np cp] ro (.bool true) := by
  have hlen := hx.count spC_len (by decide)
  have ha : Hold (∀ ro p c, ShopR ro gs s0 s1 c0 c1 pw nw cw po no co pf cf dn ws os → RdS ro p np 1 (ints (pl.map Prod.fst)) → Cr Try.prog 77 #[.pointer (some ⟨gs, 0, none⟩), .slice p np c] ro (.bool true)) := ⟨fun ro p c h1 h2 => ascend_ok ro gs s0 s1 c0 c1 pw nw cw po no co pf cf dn ws os p np c _ h1 hV h2 hN ⟨hP.out.asc⟩ hP.out.inn⟩
  have hc : Hold (∀ ro, RdS ro pp np 2 (pl.flatMap spC) → Cr Try.prog 96 #[.slice pp np cp, .func (.func 97) #[] #[]] ro (.bool false)) := ⟨fun ro h => by
    have q := containsSt_ok ro pp np cp 97 #[] (fun x => !tgB x.2) pl ⟨h⟩ ⟨by have := hN.out; omega⟩ ent_isPlan1 ⟨fun x => isPlan1_ok _ _ _⟩
    have e : (pl.any fun x => !tgB x.2) = false := by
      rw [List.any_eq_false]
      intro x hx
      simp [hP.out.tg x hx]
    rwa [e] at q⟩
  replace hS := Hold.mk hS
  replace hx := Hold.mk hx
  refine Cr.ofD fun F hF hT => ?_
  subst hF
  clear hP
  (refine DCall.inlP (l := _) Try.func75 Try.ntmps75 rfl rfl (by simp only [seval, List.length_cons, List.length_nil]) (by simp only [seval, List.length_cons, List.length_nil]) ?_; simp only [Try.results75, List.map_cons, List.map_nil])
  repeat' (first | (with_reducible refine at_seq (by with_unfolding_all exact rfl) ?_) | ((with_reducible first | refine at_plain (by with_unfolding_all exact rfl) ?_ | refine at_cond (by with_unfolding_all exact rfl) ?_ | refine at_exit (by with_unfolding_all exact rfl) ?_ | refine at_ret (by with_unfolding_all exact rfl) ?_ | refine at_skip (by with_unfolding_all exact rfl) ?_ | refine at_label (by with_unfolding_all exact rfl) ?_) <;> try simp -implicitDefEqProofs (maxSteps := 1000000) only [go_sem, seval, *]) | (with_reducible first | refine at_block (by with_unfolding_all exact rfl) ?_ | refine at_loop (by with_unfolding_all exact rfl) ?_) | ((first | ((with_reducible refine NewK.intro fun g hg hn => ?_) <;> try simp only [own_none_iff] at hn) | ((with_reducible first | refine GuardB.split (fun hc => ?_) (fun hc => ?_) | refine CondK.split (fun hc => ?_) (fun hc => ?_) | refine PickK.split (fun hc => ?_) (fun hc => ?_) | refine GuardD.split (fun hc => ?_) (fun hc => ?_)) <;> (have hc2 := hc; try simp only [beq_eq_false_iff_ne, beq_iff_eq, ne_eq, bne_iff_ne, bne_eq_false_iff_eq, decide_eq_true_eq, decide_eq_false_iff_not, Bool.not_true, Bool.not_false, Int.not_le, Int.not_lt] at hc2)) | (with_reducible first | refine dop_buildSlice ?_ | refine dop_build ?_)) <;> simp -implicitDefEqProofs (maxSteps := 1000000) only [go_sem, seval, *]))
  refine DLoop.indW (IPl gs np cp pp pl F) np ⟨0, .slice none 0 0, _, ⟨by omega⟩, Own.nil, fl_re (by kernel_rfl)⟩ ?_
  (rintro k' a h ⟨i, v, x, fa0, fa1, rfl⟩)
  have hj := fa0.out
  have nb := hN.out
  have i0 : (0 : Int) ≤ (i : Int) := by omega
  by_cases hlt : i < np
  · have i1 : ((i : Int) < (np : Int)) = True := by simp only [eq_iff_iff, iff_true]; omega
    have iw : IntKind.i64.wrap ((i : Int) + 1) = ((i + 1 : Nat) : Int) := by rw [IntWalk.i64_in _ (by omega)]; push_cast; rfl
    have hxi : pl[i]? = some pl[i] := List.getElem?_eq_getElem (by omega)
    obtain ⟨b, off, rfl, hro⟩ := hx.out.at spC_len hlt hxi
    have r0 := hro 0 _ rfl
    have r1 := hro 1 _ rfl
    rw [Nat.add_zero] at r0
    have tk : (pl.map Prod.fst).take (i + 1) = (pl.map Prod.fst).take i ++ [pl[i].1] := by
      rw [List.take_add_one, List.getElem?_map, hxi]
      rfl
    generalize pl[i] = x at *
    replace hj := Hold.mk hj
    have nbH := Hold.mk nb
    clear hro hxi nb
    repeat' (first | (with_reducible refine at_seq (by with_unfolding_all exact rfl) ?_) | ((with_reducible first | refine at_plain (by with_unfolding_all exact rfl) ?_ | refine at_cond (by with_unfolding_all exact rfl) ?_ | refine at_exit (by with_unfolding_all exact rfl) ?_ | refine at_ret (by with_unfolding_all exact rfl) ?_ | refine at_skip (by with_unfolding_all exact rfl) ?_ | refine at_label (by with_unfolding_all exact rfl) ?_) <;> try simp -implicitDefEqProofs (maxSteps := 1000000) only [go_sem, seval, *]) | (with_reducible first | refine at_block (by with_unfolding_all exact rfl) ?_ | refine at_loop (by with_unfolding_all exact rfl) ?_) | ((first | ((with_reducible refine NewK.intro fun g hg hn => ?_) <;> try simp only [own_none_iff] at hn) | ((with_reducible first | refine GuardB.split (fun hc => ?_) (fun hc => ?_) | refine CondK.split (fun hc => ?_) (fun hc => ?_) | refine PickK.split (fun hc => ?_) (fun hc => ?_) | refine GuardD.split (fun hc => ?_) (fun hc => ?_)) <;> (have hc2 := hc; try simp only [beq_eq_false_iff_ne, beq_iff_eq, ne_eq, bne_iff_ne, bne_eq_false_iff_eq, decide_eq_true_eq, decide_eq_false_iff_not, Bool.not_true, Bool.not_false, Int.not_le, Int.not_lt] at hc2)) | (with_reducible first | refine dop_buildSlice ?_ | refine dop_build ?_)) <;> simp -implicitDefEqProofs (maxSteps := 1000000) only [go_sem, seval, *]))
    rename_i g8 hg8 hn8
    have gl := hn.2.2
    refine AppD.own Try.underlying52 inf_int (by decide) (by decide) (fa1.kept fun b ob _ e2 => subS (subS sub_refl hn8) gl b ob e2) (ys := [.int .i64 x.1]) (by simp -implicitDefEqProofs (maxSteps := 1000000) only [go_sem, seval, *]) (one_agg _) (by have := nbH.out; omega) fun u gA obA hA bA r1 => ?_
    replace r1 := Hold.mk (Own.at_ (h' := h.set gA obA) r1 bA (by rw [Hp.own_set, if_pos rfl, Hp.own_set, if_pos rfl]))
    have nA : gA ≠ g8 ∧ gA ≠ g := by
      rcases hA with e | ⟨e, _⟩
      · obtain ⟨ob, ho⟩ := fa1.owned gA e
        exact ⟨(own_ne ho g8 hn8).1, (own_ne ho g gl).1⟩
      · simp only [own_none_iff] at e
        exact ⟨e.2.2.1, e.1⟩
    clear hA fa1
    simp -implicitDefEqProofs (maxSteps := 1000000) only [go_sem, seval, *]
    repeat' (first | (with_reducible refine at_seq (by with_unfolding_all exact rfl) ?_) | ((with_reducible first | refine at_plain (by with_unfolding_all exact rfl) ?_ | refine at_cond (by with_unfolding_all exact rfl) ?_ | refine at_exit (by with_unfolding_all exact rfl) ?_ | refine at_ret (by with_unfolding_all exact rfl) ?_ | refine at_skip (by with_unfolding_all exact rfl) ?_ | refine at_label (by with_unfolding_all exact rfl) ?_) <;> try simp -implicitDefEqProofs (maxSteps := 1000000) only [go_sem, seval, *]) | (with_reducible first | refine at_block (by with_unfolding_all exact rfl) ?_ | refine at_loop (by with_unfolding_all exact rfl) ?_) | ((first | ((with_reducible refine NewK.intro fun g hg hn => ?_) <;> try simp only [own_none_iff] at hn) | ((with_reducible first | refine GuardB.split (fun hc => ?_) (fun hc => ?_) | refine CondK.split (fun hc => ?_) (fun hc => ?_) | refine PickK.split (fun hc => ?_) (fun hc => ?_) | refine GuardD.split (fun hc => ?_) (fun hc => ?_)) <;> (have hc2 := hc; try simp only [beq_eq_false_iff_ne, beq_iff_eq, ne_eq, bne_iff_ne, bne_eq_false_iff_eq, decide_eq_true_eq, decide_eq_false_iff_not, Bool.not_true, Bool.not_false, Int.not_le, Int.not_lt] at hc2)) | (with_reducible first | refine dop_buildSlice ?_ | refine dop_build ?_)) <;> simp -implicitDefEqProofs (maxSteps := 1000000) only [go_sem, seval, *]))
    have hj := hj.out
    refine LoopW.intro (k' - 1) (h.set gA obA) (by omega) ?_ ⟨i + 1, u, _, ⟨by omega⟩, (by rw [tk, ints_snoc]; exact r1.out), fl_re (by kernel_rfl)⟩
    intro y oy e
    rw [Hp.own_set] at e ⊢
    split at e
    · rename_i q; rw [if_pos q]; exact e
    · rename_i q
      rw [if_neg q]
      exact subS (subS sub_refl hn8) gl y oy e
  · have i1 : ((i : Int) < (np : Int)) = False := by simp only [eq_iff_iff, iff_false]; omega
    have hjn : np = i := by omega
    subst hjn
    rw [List.take_of_length_le (by rw [List.length_map]; omega)] at fa1
    obtain ⟨gv, cv, rfl, rd⟩ := fa1.some (by omega)
    have rdH := Hold.mk (RdS.of rd)
    clear hlt i0 hj nb rd fa1
    repeat' (first | (with_reducible refine at_seq (by with_unfolding_all exact rfl) ?_) | ((with_reducible first | refine at_plain (by with_unfolding_all exact rfl) ?_ | refine at_cond (by with_unfolding_all exact rfl) ?_ | refine at_exit (by with_unfolding_all exact rfl) ?_ | refine at_ret (by with_unfolding_all exact rfl) ?_ | refine at_skip (by with_unfolding_all exact rfl) ?_ | refine at_label (by with_unfolding_all exact rfl) ?_) <;> try simp -implicitDefEqProofs (maxSteps := 1000000) only [go_sem, seval, *]) | (with_reducible first | refine at_block (by with_unfolding_all exact rfl) ?_ | refine at_loop (by with_unfolding_all exact rfl) ?_) | ((first | ((with_reducible refine NewK.intro fun g hg hn => ?_) <;> try simp only [own_none_iff] at hn) | ((with_reducible first | refine GuardB.split (fun hc => ?_) (fun hc => ?_) | refine CondK.split (fun hc => ?_) (fun hc => ?_) | refine PickK.split (fun hc => ?_) (fun hc => ?_) | refine GuardD.split (fun hc => ?_) (fun hc => ?_)) <;> (have hc2 := hc; try simp only [beq_eq_false_iff_ne, beq_iff_eq, ne_eq, bne_iff_ne, bne_eq_false_iff_eq, decide_eq_true_eq, decide_eq_false_iff_not, Bool.not_true, Bool.not_false, Int.not_le, Int.not_lt] at hc2)) | (with_reducible first | refine dop_buildSlice ?_ | refine dop_build ?_) | ((with_reducible refine Cr.call (f := 77) (ha.out _ _ _ (hS.out.mono (fun a u e => Hp.cell_ro e)) rdH.out) ?_)) | (with_reducible refine CallV.of (f := 77) (ha.out _ _ _ (hS.out.mono (fun a u e => Hp.cell_ro e)) rdH.out) ni77 ?_) | ((with_reducible refine Cr.call (f := 96) (hc.out _ (hx.out.mono (fun a u e => Hp.cell_ro e))) ?_)) | (with_reducible refine CallV.of (f := 96) (hc.out _ (hx.out.mono (fun a u e => Hp.cell_ro e))) ni96 ?_)) <;> simp -implicitDefEqProofs (maxSteps := 1000000) only [go_sem, seval, *]))
theorem isPlan0_ok (ro : Addr → Option Value) (gs : Nat) (s0 s1 c0 c1 : Int) (pw : Option Addr) (nw cw : Nat) (po : Option Addr) (no co : Nat) (pf : Option Addr) (cf : Nat) (dn : Bool) (ws : List (Int × Int)) (os : List Ord) (pp : Option Addr) (cp : Nat) (hS : ShopR ro gs s0 s1 c0 c1 pw nw cw po no co pf cf dn ws os) (hV : Hold (ShopB s0 s1 c0 c1 nw no ws os)) :
    Cr Try.prog 75 #[.pointer (some ⟨gs, 0, none⟩), .slice pp 0 cp] ro (.bool true) := by
  have ha : Hold (∀ ro, ShopR ro gs s0 s1 c0 c1 pw nw cw po no co pf cf dn ws os → Cr Try.prog 77 #[.pointer (some ⟨gs, 0, none⟩), .slice none 0 0] ro (.bool true)) := ⟨fun ro h1 => ascend0_ok ro gs s0 s1 c0 c1 pw nw cw po no co pf cf dn ws os h1 hV⟩
  have hc : Hold (∀ ro, Cr Try.prog 96 #[.slice pp 0 cp, .func (.func 97) #[] #[]] ro (.bool false)) := ⟨fun ro => containsSt_ok ro pp 0 cp 97 #[] (fun x => !tgB x.2) [] ⟨RdS.zero⟩ ⟨by decide⟩ ent_isPlan1 ⟨fun x => isPlan1_ok _ _ _⟩⟩
  replace hS := Hold.mk hS
  (refine Cr.ofP (l := _) Try.func75 Try.ntmps75 rfl rfl (by simp only [seval, List.length_cons, List.length_nil]) (by simp only [seval, List.length_cons, List.length_nil]) (fun F hF => ?_); simp only [Try.results75, List.map_cons, List.map_nil])
  subst hF
  repeat' (first | (with_reducible refine at_seq (by with_unfolding_all exact rfl) ?_) | ((with_reducible first | refine at_plain (by with_unfolding_all exact rfl) ?_ | refine at_cond (by with_unfolding_all exact rfl) ?_ | refine at_exit (by with_unfolding_all exact rfl) ?_ | refine at_ret (by with_unfolding_all exact rfl) ?_ | refine at_skip (by with_unfolding_all exact rfl) ?_ | refine at_label (by with_unfolding_all exact rfl) ?_) <;> try simp -implicitDefEqProofs (maxSteps := 1000000) only [go_sem, seval, *]) | (with_reducible first | refine at_block (by with_unfolding_all exact rfl) ?_ | refine at_loop (by with_unfolding_all exact rfl) ?_) | ((first | (with_reducible refine DLoop.rounds 1 ?_) | ((with_reducible refine NewK.intro fun g hg hn => ?_) <;> try simp only [own_none_iff] at hn) | ((with_reducible first | refine GuardB.split (fun hc => ?_) (fun hc => ?_) | refine CondK.split (fun hc => ?_) (fun hc => ?_) | refine PickK.split (fun hc => ?_) (fun hc => ?_) | refine GuardD.split (fun hc => ?_) (fun hc => ?_)) <;> (have hc2 := hc; try simp only [beq_eq_false_iff_ne, beq_iff_eq, ne_eq, bne_iff_ne, bne_eq_false_iff_eq, decide_eq_true_eq, decide_eq_false_iff_not, Bool.not_true, Bool.not_false, Int.not_le, Int.not_lt] at hc2)) | (with_reducible first | refine dop_buildSlice ?_ | refine dop_build ?_) | ((with_reducible refine Cr.call (f := 77) (ha.out _ (hS.out.mono (fun a u e => Hp.cell_ro e))) ?_)) | (with_reducible refine CallV.of (f := 77) (ha.out _ (hS.out.mono (fun a u e => Hp.cell_ro e))) ni77 ?_) | ((with_reducible refine Cr.call (f := 96) (hc.out _) ?_)) | (with_reducible refine CallV.of (f := 96) (hc.out _) ni96 ?_)) <;> simp -implicitDefEqProofs (maxSteps := 1000000) only [go_sem, seval, *]))
/-- Is a target among those of some pieces? -/
def inT (dn : Bool) (s0 s1 c0 c1 : Int) (ws : List (Int × Int)) (os : List Ord) (fr : Nat) (tg : Int) (e : Nat) : Bool := allI (backV dn (tgF s0 s1 c0 c1 ws os fr e)).1 (backV dn (tgF s0 s1 c0 c1 ws os fr e)).2 [tg]
theorem inT_iff {nw no : Nat} {dn : Bool} {s0 s1 c0 c1 : Int} {ws : List (Int × Int)} {os : List Ord} (hV : ShopB s0 s1 c0 c1 nw no ws os) {fr e : Nat} (hf : fr < e) (he : e ≤ allN os) (tg : Int) :
    inT dn s0 s1 c0 c1 ws os fr tg e = true ↔ ∀ p, fr ≤ p → p < e → lowP s0 c0 ws os fr p ≤ (if dn then -tg else tg) ∧ (if dn then -tg else tg) ≤ highP s1 c1 ws os fr p := by
  have i1 := tgF_iff (s0 := s0) (s1 := s1) (c0 := c0) (c1 := c1) hV.ords.1 hV.wears hf he (if dn then -tg else tg)
  have e1 : inT dn s0 s1 c0 c1 ws os fr tg e = true ↔ (tgF s0 s1 c0 c1 ws os fr e).1 ≤ (if dn then -tg else tg) ∧ (if dn then -tg else tg) ≤ (tgF s0 s1 c0 c1 ws os fr e).2 := by
    unfold inT backV
    cases dn with
    | false => simp [allI]
    | true => simp [allI]; omega
  rw [e1, i1.1, i1.2]
  exact ⟨fun h p p1 p2 => ⟨h.1 p p1 p2, h.2 p p1 p2⟩, fun h => ⟨fun p p1 p2 => (h p p1 p2).1, fun p p1 p2 => (h p p1 p2).2⟩⟩
theorem judge1_ok (ro : Addr → Option Value) (b2 b3 : Nat) (gs : Nat) (s0 s1 c0 c1 : Int) (pw : Option Addr) (nw cw : Nat) (po : Option Addr) (no co : Nat) (pf : Option Addr) (cf : Nat) (dn : Bool) (ws : List (Int × Int)) (os : List Ord) (fr i : Nat) (tg : Int) (hS : ShopR ro gs s0 s1 c0 c1 pw nw cw po no co pf cf dn ws os) (hV : Hold (ShopB s0 s1 c0 c1 nw no ws os)) (h1 : ro ⟨b2, 0, none⟩ = some (.pointer (some ⟨gs, 0, none⟩))) (h2 : ro ⟨b3, 0, none⟩ = some (.int .i64 fr)) (h3 : ro ⟨b3, 1, none⟩ = some (.int .i64 tg)) (hb : fr + i + 1 ≤ allN os) :
    Cr Try.prog 99 #[.int .i64 i, .pointer (some ⟨b2, 0, none⟩), .pointer (some ⟨b3, 0, none⟩)] ro (.bool (!inT dn s0 s1 c0 c1 ws os fr tg (fr + i + 1))) := by
  have ab := allN_bd hV.out.ords.1
  have w1 : IntKind.i64.wrap ((fr : Int) + (i : Int)) = ((fr + i : Nat) : Int) := by rw [IntWalk.i64_in _ (by omega)]; push_cast; rfl
  have w2 : IntKind.i64.wrap (((fr + i : Nat) : Int) + 1) = ((fr + i + 1 : Nat) : Int) := by rw [IntWalk.i64_in _ (by omega)]; push_cast; rfl
  have tb := tgF_bd hV.out (fr := fr) (to := fr + i + 1) (by omega) hb
  have ht : Hold (∀ ro, ShopR ro gs s0 s1 c0 c1 pw nw cw po no co pf cf dn ws os → Cr Try.prog 68 #[.pointer (some ⟨gs, 0, none⟩), .int .i64 fr, .int .i64 ((fr + i + 1 : Nat) : Int)] ro (.agg #[.int .i64 (tgF s0 s1 c0 c1 ws os fr ((fr + i + 1 : Nat) : Int)).1, .int .i64 (tgF s0 s1 c0 c1 ws os fr ((fr + i + 1 : Nat) : Int)).2])) := ⟨fun ro h => tgF_ok ro gs s0 s1 c0 c1 pw nw cw po no co pf cf dn ws os fr _ h hV ⟨by omega⟩⟩
  unfold inT
  generalize tgF s0 s1 c0 c1 ws os fr ((fr + i + 1 : Nat) : Int) = t at *
  have x1 : IntKind.i64.wrap (0 - t.1) = -t.1 := by rw [IntWalk.i64_in _ (by omega)]; omega
  have x2 : IntKind.i64.wrap (0 - t.2) = -t.2 := by rw [IntWalk.i64_in _ (by omega)]; omega
  have hk : Hold (∀ ro, ShopR ro gs s0 s1 c0 c1 pw nw cw po no co pf cf dn ws os → Cr Try.prog 67 #[.pointer (some ⟨gs, 0, none⟩), .agg #[.int .i64 t.1, .int .i64 t.2]] ro (.agg #[.int .i64 (backV dn t).1, .int .i64 (backV dn t).2])) := ⟨fun ro h => back_ok ro gs dn t.1 t.2 h.m8 x1 x2⟩
  generalize backV dn t = w at *
  replace hS := Hold.mk hS
  clear hb ab tb x1 x2
  (refine Cr.ofP (l := _) Try.func99 Try.ntmps99 rfl rfl (by simp only [seval, List.length_cons, List.length_nil]) (by simp only [seval, List.length_cons, List.length_nil]) (fun F hF => ?_); simp only [Try.results99, List.map_cons, List.map_nil])
  subst hF
  repeat' (first | (with_reducible refine at_seq (by with_unfolding_all exact rfl) ?_) | ((with_reducible first | refine at_plain (by with_unfolding_all exact rfl) ?_ | refine at_draw (by with_unfolding_all exact rfl) ?_ | refine at_cond (by with_unfolding_all exact rfl) ?_ | refine at_exit (by with_unfolding_all exact rfl) ?_ | refine at_ret (by with_unfolding_all exact rfl) ?_ | refine at_skip (by with_unfolding_all exact rfl) ?_ | refine at_label (by with_unfolding_all exact rfl) ?_) <;> try simp -implicitDefEqProofs (maxSteps := 1000000) only [go_sem, seval, *]) | (with_reducible first | refine at_block (by with_unfolding_all exact rfl) ?_ | refine at_loop (by with_unfolding_all exact rfl) ?_) | ((first | ((with_reducible refine NewK.intro fun g hg hn => ?_) <;> try simp only [own_none_iff] at hn) | ((with_reducible first | refine GuardB.split (fun hc => ?_) (fun hc => ?_) | refine CondK.split (fun hc => ?_) (fun hc => ?_) | refine PickK.split (fun hc => ?_) (fun hc => ?_) | refine GuardD.split (fun hc => ?_) (fun hc => ?_)) <;> (have hc2 := hc; try simp only [beq_eq_false_iff_ne, beq_iff_eq, ne_eq, bne_iff_ne, bne_eq_false_iff_eq, decide_eq_true_eq, decide_eq_false_iff_not, Bool.not_true, Bool.not_false, Int.not_le, Int.not_lt] at hc2)) | (with_reducible first | refine dop_buildSlice ?_ | refine dop_build ?_) | ((with_reducible refine Cr.call (f := 68) (ht.out _ (hS.out.mono (fun a u e => Hp.cell_ro e))) ?_)) | (with_reducible refine CallV.of (f := 68) (ht.out _ (hS.out.mono (fun a u e => Hp.cell_ro e))) ni68 ?_) | ((with_reducible refine Cr.call (f := 67) (hk.out _ (hS.out.mono (fun a u e => Hp.cell_ro e))) ?_)) | (with_reducible refine CallV.of (f := 67) (hk.out _ (hS.out.mono (fun a u e => Hp.cell_ro e))) ni67 ?_) | ((with_reducible refine Cr.call (f := 60) (withinB_ok _ _ _ _ _ _ _ (by simp -implicitDefEqProofs (maxSteps := 1000000) only [go_sem, seval, *]) ⟨by decide⟩) ?_)) | (with_reducible refine CallV.of (f := 60) (withinB_ok _ _ _ _ _ _ _ (by simp -implicitDefEqProofs (maxSteps := 1000000) only [go_sem, seval, *]) ⟨by decide⟩) ni60 ?_) | ((with_reducible refine DDraw.told (id := 1) [] [] mo ?_ ?_); kernel_rfl) | (with_reducible first | refine stp_build ?_ | refine stp_buildSlice ?_ | refine stp_store ?_ | refine stp_ns ?_) | (with_reducible refine NsB.intro (fun h' ho K' hk => by simp -implicitDefEqProofs (maxSteps := 1000000) only [go_sem, seval, *] <;> exact hk) ?_) | (with_reducible refine WrB.intro _ (by simp -implicitDefEqProofs (maxSteps := 1000000) only [go_sem, seval, *]) (fun h' ho K' hk => by simp -implicitDefEqProofs (maxSteps := 1000000) only [go_sem, seval, *]; exact hk) (fun h' ho K' hk => by simp -implicitDefEqProofs (maxSteps := 1000000) only [go_sem, seval, *] at hk; exact hk) (fun h' ho hk => by simp -implicitDefEqProofs (maxSteps := 1000000) only [go_sem, seval, *] at hk <;> with_unfolding_all exact False.elim hk) ?_) | (with_reducible refine WrB.intro _ (by simp -implicitDefEqProofs (maxSteps := 1000000) only [go_sem, seval, *]) (fun h' ho K' hk => by simp -implicitDefEqProofs (maxSteps := 1000000) only [go_sem, seval, *]; exact hk) ?_) | ((with_reducible refine DDraw.auto mo ?_ ?_); kernel_rfl)) <;> simp -implicitDefEqProofs (maxSteps := 1000000) only [go_sem, seval, *]) | (with_reducible refine bi_same ?_))
theorem ent_judge1 : entB Try.prog 99 = true := by unfold entB; rw [Try.func99]; rfl
/-- The first piece that is not sure with a setting. -/
def jugV (dn : Bool) (s0 s1 c0 c1 : Int) (ws : List (Int × Int)) (os : List Ord) (fr : Nat) (tg : Int) (to : Nat) : Nat := fr + firstP (fun i => !inT dn s0 s1 c0 c1 ws os fr tg (fr + i + 1)) (to - fr)
theorem judge_ok (ro : Addr → Option Value) (gs : Nat) (s0 s1 c0 c1 : Int) (pw : Option Addr) (nw cw : Nat) (po : Option Addr) (no co : Nat) (pf : Option Addr) (cf : Nat) (dn : Bool) (ws : List (Int × Int)) (os : List Ord) (fr to : Nat) (tg : Int) (hS : ShopR ro gs s0 s1 c0 c1 pw nw cw po no co pf cf dn ws os) (hV : Hold (ShopB s0 s1 c0 c1 nw no ws os)) (hb : fr ≤ to ∧ to ≤ allN os) :
    Cr Try.prog 76 #[.pointer (some ⟨gs, 0, none⟩), .agg #[.int .i64 fr, .int .i64 tg], .int .i64 to] ro (.int .i64 (jugV dn s0 s1 c0 c1 ws os fr tg to)) := by
  have ab := allN_bd hV.out.ords.1
  have f1 := (firstP_spec (fun i => !inT dn s0 s1 c0 c1 ws os fr tg (fr + i + 1)) (to - fr)).1
  have w1 : IntKind.i64.wrap ((to : Int) - (fr : Int)) = ((to - fr : Nat) : Int) := by rw [IntWalk.i64_in _ (by omega)]; omega
  have hm : ∀ i j, i ≤ j → j < to - fr → (!inT dn s0 s1 c0 c1 ws os fr tg (fr + i + 1)) = true → (!inT dn s0 s1 c0 c1 ws os fr tg (fr + j + 1)) = true := by
    intro i j h1 h2 h3
    cases h4 : inT dn s0 s1 c0 c1 ws os fr tg (fr + j + 1) with
    | false => rfl
    | true =>
      have q := (inT_iff hV.out (by omega) (by omega) tg).1 h4
      have : inT dn s0 s1 c0 c1 ws os fr tg (fr + i + 1) = true := (inT_iff hV.out (by omega) (by omega) tg).2 fun p p1 p2 => q p p1 (by omega)
      rw [this] at h3
      cases h3
  have hs : Hold (∀ ro b2 b3, ShopR ro gs s0 s1 c0 c1 pw nw cw po no co pf cf dn ws os → ro ⟨b2, 0, none⟩ = some (.pointer (some ⟨gs, 0, none⟩)) → ro ⟨b3, 0, none⟩ = some (.int .i64 fr) → ro ⟨b3, 1, none⟩ = some (.int .i64 tg) → Cr Try.prog 82 #[.int .i64 ((to - fr : Nat) : Int), .func (.func 99) #[] #[.pointer (some ⟨b2, 0, none⟩), .pointer (some ⟨b3, 0, none⟩)]] ro (.int .i64 (firstP (fun i => !inT dn s0 s1 c0 c1 ws os fr tg (fr + i + 1)) (to - fr)))) :=
    ⟨fun ro b2 b3 h h1 h2 h3 => search_ok ro (to - fr) 99 #[.pointer (some ⟨b2, 0, none⟩), .pointer (some ⟨b3, 0, none⟩)] (fun i => !inT dn s0 s1 c0 c1 ws os fr tg (fr + i + 1)) ⟨by omega⟩ ent_judge1 ⟨hm⟩ ⟨fun x hx => judge1_ok ro b2 b3 gs s0 s1 c0 c1 pw nw cw po no co pf cf dn ws os fr x tg h hV h1 h2 h3 (by omega)⟩⟩
  unfold jugV
  generalize firstP (fun i => !inT dn s0 s1 c0 c1 ws os fr tg (fr + i + 1)) (to - fr) = v at *
  have w2 : IntKind.i64.wrap ((fr : Int) + (v : Int)) = ((fr + v : Nat) : Int) := by rw [IntWalk.i64_in _ (by omega)]; push_cast; rfl
  generalize to - fr = d at *
  replace hS := Hold.mk hS
  clear ab f1 hb hm
  (refine Cr.ofP (l := _) Try.func76 Try.ntmps76 rfl rfl (by simp only [seval, List.length_cons, List.length_nil]) (by simp only [seval, List.length_cons, List.length_nil]) (fun F hF => ?_); simp only [Try.results76, List.map_cons, List.map_nil])
  subst hF
  repeat' (first | (with_reducible refine at_seq (by with_unfolding_all exact rfl) ?_) | ((with_reducible first | refine at_plain (by with_unfolding_all exact rfl) ?_ | refine at_draw (by with_unfolding_all exact rfl) ?_ | refine at_cond (by with_unfolding_all exact rfl) ?_ | refine at_exit (by with_unfolding_all exact rfl) ?_ | refine at_ret (by with_unfolding_all exact rfl) ?_ | refine at_skip (by with_unfolding_all exact rfl) ?_ | refine at_label (by with_unfolding_all exact rfl) ?_) <;> try simp -implicitDefEqProofs (maxSteps := 1000000) only [go_sem, seval, *]) | (with_reducible first | refine at_block (by with_unfolding_all exact rfl) ?_ | refine at_loop (by with_unfolding_all exact rfl) ?_) | ((first | ((with_reducible refine NewK.intro fun g hg hn => ?_) <;> try simp only [own_none_iff] at hn) | ((with_reducible first | refine GuardB.split (fun hc => ?_) (fun hc => ?_) | refine CondK.split (fun hc => ?_) (fun hc => ?_) | refine PickK.split (fun hc => ?_) (fun hc => ?_) | refine GuardD.split (fun hc => ?_) (fun hc => ?_)) <;> (have hc2 := hc; try simp only [beq_eq_false_iff_ne, beq_iff_eq, ne_eq, bne_iff_ne, bne_eq_false_iff_eq, decide_eq_true_eq, decide_eq_false_iff_not, Bool.not_true, Bool.not_false, Int.not_le, Int.not_lt] at hc2)) | (with_reducible first | refine dop_buildSlice ?_ | refine dop_build ?_) | ((with_reducible refine Cr.call (f := 82) (hs.out _ _ _ (hS.out.mono (fun a u e => Hp.cell_ro e)) (by simp -implicitDefEqProofs (maxSteps := 1000000) only [go_sem, seval, *]) (by simp -implicitDefEqProofs (maxSteps := 1000000) only [go_sem, seval, *]) (by simp -implicitDefEqProofs (maxSteps := 1000000) only [go_sem, seval, *])) ?_)) | (with_reducible refine CallV.of (f := 82) (hs.out _ _ _ (hS.out.mono (fun a u e => Hp.cell_ro e)) (by simp -implicitDefEqProofs (maxSteps := 1000000) only [go_sem, seval, *]) (by simp -implicitDefEqProofs (maxSteps := 1000000) only [go_sem, seval, *]) (by simp -implicitDefEqProofs (maxSteps := 1000000) only [go_sem, seval, *])) ni82 ?_) | (with_reducible first | refine stp_build ?_ | refine stp_buildSlice ?_ | refine stp_store ?_ | refine stp_ns ?_) | (with_reducible refine NsB.intro (fun h' ho K' hk => by simp -implicitDefEqProofs (maxSteps := 1000000) only [go_sem, seval, *] <;> exact hk) ?_) | (with_reducible refine WrB.intro _ (by simp -implicitDefEqProofs (maxSteps := 1000000) only [go_sem, seval, *]) (fun h' ho K' hk => by simp -implicitDefEqProofs (maxSteps := 1000000) only [go_sem, seval, *]; exact hk) (fun h' ho K' hk => by simp -implicitDefEqProofs (maxSteps := 1000000) only [go_sem, seval, *] at hk; exact hk) (fun h' ho hk => by simp -implicitDefEqProofs (maxSteps := 1000000) only [go_sem, seval, *] at hk <;> with_unfolding_all exact False.elim hk) ?_) | (with_reducible refine WrB.intro _ (by simp -implicitDefEqProofs (maxSteps := 1000000) only [go_sem, seval, *]) (fun h' ho K' hk => by simp -implicitDefEqProofs (maxSteps := 1000000) only [go_sem, seval, *]; exact hk) ?_) | ((with_reducible refine DDraw.auto mo ?_ ?_); kernel_rfl)) <;> simp -implicitDefEqProofs (maxSteps := 1000000) only [go_sem, seval, *]) | (with_reducible refine bi_same ?_))

end Go.Proofs.Ytlbpfmnobapidaa
