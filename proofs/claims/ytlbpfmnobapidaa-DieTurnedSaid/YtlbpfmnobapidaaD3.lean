/-
  Walks. Conditions: none.
-/
import Derived.Test.YtlbpfmnobapidaaD2
set_option linter.unusedVariables false
set_option linter.unusedSimpArgs false
namespace Go.Proofs.Ytlbpfmnobapidaa
open Go.RowKit Go.SL
set_option maxHeartbeats 1000000
set_option maxRecDepth 1000000
attribute [local go_sem] fl_getD fl_get fl_set lk_def st_def gL_nil gL_zero gL_succ sL_nil_zero sL_nil_succ sL_zero sL_succ Option.getD_none FgK_app onlyL_nil onlyL_none onlyL_some setO_some toB_bool toB_undef yl_def
attribute [local go_sem high] GuardK_yl GuardL_yl
attribute [local go_sem] i64w
attribute [local go_sem] dwp_eqGuardE dwp_eqGuardN rval_eqGuardE rval_eqGuardN
attribute [local go_sem] add_none
theorem turned_ok (ro : Addr → Option Value) (lo hi : Int) (h1 : IntKind.i64.wrap (0 - lo) = -lo) (h2 : IntKind.i64.wrap (0 - hi) = -hi) : Cr Try.prog 81 #[.agg #[.int .i64 lo, .int .i64 hi]] ro (.agg #[.int .i64 (-hi), .int .i64 (-lo)]) := by
  (refine Cr.ofP (l := _) Try.func81 Try.ntmps81 rfl rfl (by simp only [seval, List.length_cons, List.length_nil]) (by simp only [seval, List.length_cons, List.length_nil]) (fun F hF => ?_); simp only [Try.results81, List.map_cons, List.map_nil])
  subst hF
  repeat' (first | (with_reducible refine at_seq (by with_unfolding_all exact rfl) ?_) | ((with_reducible first | refine at_plain (by with_unfolding_all exact rfl) ?_ | refine at_cond (by with_unfolding_all exact rfl) ?_ | refine at_exit (by with_unfolding_all exact rfl) ?_ | refine at_ret (by with_unfolding_all exact rfl) ?_ | refine at_skip (by with_unfolding_all exact rfl) ?_ | refine at_label (by with_unfolding_all exact rfl) ?_) <;> try simp -implicitDefEqProofs (maxSteps := 1000000) only [go_sem, seval, *]) | (with_reducible first | refine at_block (by with_unfolding_all exact rfl) ?_ | refine at_loop (by with_unfolding_all exact rfl) ?_) | ((first | ((with_reducible refine NewK.intro fun g hg hn => ?_) <;> try simp only [own_none_iff] at hn) | ((with_reducible first | refine GuardB.split (fun hc => ?_) (fun hc => ?_) | refine CondK.split (fun hc => ?_) (fun hc => ?_) | refine PickK.split (fun hc => ?_) (fun hc => ?_) | refine GuardD.split (fun hc => ?_) (fun hc => ?_)) <;> (have hc2 := hc; try simp only [beq_eq_false_iff_ne, beq_iff_eq, ne_eq, bne_iff_ne, bne_eq_false_iff_eq, decide_eq_true_eq, decide_eq_false_iff_not, Bool.not_true, Bool.not_false, Int.not_le, Int.not_lt] at hc2)) | (with_reducible first | refine dop_buildSlice ?_ | refine dop_build ?_)) <;> simp -implicitDefEqProofs (maxSteps := 1000000) only [go_sem, seval, *]))
theorem plus_ok (ro : Addr → Option Value) (a b c d : Int) (h1 : IntKind.i64.wrap (a + c) = a + c) (h2 : IntKind.i64.wrap (b + d) = b + d) : Cr Try.prog 80 #[.agg #[.int .i64 a, .int .i64 b], .agg #[.int .i64 c, .int .i64 d]] ro (.agg #[.int .i64 (a + c), .int .i64 (b + d)]) := by
  (refine Cr.ofP (l := _) Try.func80 Try.ntmps80 rfl rfl (by simp only [seval, List.length_cons, List.length_nil]) (by simp only [seval, List.length_cons, List.length_nil]) (fun F hF => ?_); simp only [Try.results80, List.map_cons, List.map_nil])
  subst hF
  repeat' (first | (with_reducible refine at_seq (by with_unfolding_all exact rfl) ?_) | ((with_reducible first | refine at_plain (by with_unfolding_all exact rfl) ?_ | refine at_cond (by with_unfolding_all exact rfl) ?_ | refine at_exit (by with_unfolding_all exact rfl) ?_ | refine at_ret (by with_unfolding_all exact rfl) ?_ | refine at_skip (by with_unfolding_all exact rfl) ?_ | refine at_label (by with_unfolding_all exact rfl) ?_) <;> try simp -implicitDefEqProofs (maxSteps := 1000000) only [go_sem, seval, *]) | (with_reducible first | refine at_block (by with_unfolding_all exact rfl) ?_ | refine at_loop (by with_unfolding_all exact rfl) ?_) | ((first | ((with_reducible refine NewK.intro fun g hg hn => ?_) <;> try simp only [own_none_iff] at hn) | ((with_reducible first | refine GuardB.split (fun hc => ?_) (fun hc => ?_) | refine CondK.split (fun hc => ?_) (fun hc => ?_) | refine PickK.split (fun hc => ?_) (fun hc => ?_) | refine GuardD.split (fun hc => ?_) (fun hc => ?_)) <;> (have hc2 := hc; try simp only [beq_eq_false_iff_ne, beq_iff_eq, ne_eq, bne_iff_ne, bne_eq_false_iff_eq, decide_eq_true_eq, decide_eq_false_iff_not, Bool.not_true, Bool.not_false, Int.not_le, Int.not_lt] at hc2)) | (with_reducible first | refine dop_buildSlice ?_ | refine dop_build ?_)) <;> simp -implicitDefEqProofs (maxSteps := 1000000) only [go_sem, seval, *]))
theorem times_ok (ro : Addr → Option Value) (a b n : Int) (h1 : IntKind.i64.wrap (a * n) = a * n) (h2 : IntKind.i64.wrap (b * n) = b * n) : Cr Try.prog 94 #[.agg #[.int .i64 a, .int .i64 b], .int .i64 n] ro (.agg #[.int .i64 (a * n), .int .i64 (b * n)]) := by
  (refine Cr.ofP (l := _) Try.func94 Try.ntmps94 rfl rfl (by simp only [seval, List.length_cons, List.length_nil]) (by simp only [seval, List.length_cons, List.length_nil]) (fun F hF => ?_); simp only [Try.results94, List.map_cons, List.map_nil])
  subst hF
  repeat' (first | (with_reducible refine at_seq (by with_unfolding_all exact rfl) ?_) | ((with_reducible first | refine at_plain (by with_unfolding_all exact rfl) ?_ | refine at_cond (by with_unfolding_all exact rfl) ?_ | refine at_exit (by with_unfolding_all exact rfl) ?_ | refine at_ret (by with_unfolding_all exact rfl) ?_ | refine at_skip (by with_unfolding_all exact rfl) ?_ | refine at_label (by with_unfolding_all exact rfl) ?_) <;> try simp -implicitDefEqProofs (maxSteps := 1000000) only [go_sem, seval, *]) | (with_reducible first | refine at_block (by with_unfolding_all exact rfl) ?_ | refine at_loop (by with_unfolding_all exact rfl) ?_) | ((first | ((with_reducible refine NewK.intro fun g hg hn => ?_) <;> try simp only [own_none_iff] at hn) | ((with_reducible first | refine GuardB.split (fun hc => ?_) (fun hc => ?_) | refine CondK.split (fun hc => ?_) (fun hc => ?_) | refine PickK.split (fun hc => ?_) (fun hc => ?_) | refine GuardD.split (fun hc => ?_) (fun hc => ?_)) <;> (have hc2 := hc; try simp only [beq_eq_false_iff_ne, beq_iff_eq, ne_eq, bne_iff_ne, bne_eq_false_iff_eq, decide_eq_true_eq, decide_eq_false_iff_not, Bool.not_true, Bool.not_false, Int.not_le, Int.not_lt] at hc2)) | (with_reducible first | refine dop_buildSlice ?_ | refine dop_build ?_)) <;> simp -implicitDefEqProofs (maxSteps := 1000000) only [go_sem, seval, *]))
theorem own_ne1 {o : Obj} {h : Hp} {x : Nat} (e : h.own x = some o) (b : Nat) (hb : h.own b = none) : x ≠ b ∧ b ≠ x := by
  have q : x ≠ b := by
    intro he
    subst he
    rw [e] at hb
    cases hb
  exact ⟨q, q.symm⟩
theorem own_ne {o : Obj} {h : Hp} {x : Nat} (e : h.own x = some o) : ∀ b, h.own b = none → x ≠ b ∧ b ≠ x := fun b hb => own_ne1 e b hb
theorem sub_cell {F : Fr} {h h' : Hp} (k : ∀ g o, h.own g = some o → h'.own g = some o) {a : Addr} {v : Value} (e : h.cell? F a = some v) : h'.cell? F a = some v := by
  unfold Hp.cell? at e ⊢
  cases hro : F.ro a with
  | some u => rw [hro] at e; exact e
  | none =>
    rw [hro] at e
    cases ho : h.own a.block with
    | none => rw [ho] at e; cases e
    | some o => rw [ho] at e; rw [k _ _ ho]; exact e
theorem sub_setN {h : Hp} {g : Nat} {ob : Obj} (hn : h.own g = none) : ∀ y o, h.own y = some o → (h.set g ob).own y = some o := subS sub_refl hn
/-- The error of a steel's number. -/
def steelE (nw : Nat) (st : Int) : Int := if allI 0 ((nw : Int) - 1) [st] = true then 0 else 7
theorem hasSteel_ok (ro : Addr → Option Value) (dn : Bool) (s0 s1 c0 c1 : Int) (pw : Option Addr) (nw cw : Nat) (st : Int) (hb : nw < 9223372036854775808) :
    Cr Try.prog 62 #[.agg #[.bool dn, .int .i64 s0, .int .i64 s1, .int .i64 c0, .int .i64 c1, .slice pw nw cw], .int .i64 st] ro (.int .i64 (steelE nw st)) := by
  have w1 : IntKind.i64.wrap ((nw : Int) - 1) = (nw : Int) - 1 := IntWalk.i64_in _ (by omega)
  unfold steelE
  cases h : allI 0 ((nw : Int) - 1) [st] with
  | true =>
    (refine Cr.ofP (l := _) Try.func62 Try.ntmps62 rfl rfl (by simp only [seval, List.length_cons, List.length_nil]) (by simp only [seval, List.length_cons, List.length_nil]) (fun F hF => ?_); simp only [Try.results62, List.map_cons, List.map_nil])
    subst hF
    repeat' (first | (with_reducible refine at_seq (by with_unfolding_all exact rfl) ?_) | ((with_reducible first | refine at_plain (by with_unfolding_all exact rfl) ?_ | refine at_cond (by with_unfolding_all exact rfl) ?_ | refine at_exit (by with_unfolding_all exact rfl) ?_ | refine at_ret (by with_unfolding_all exact rfl) ?_ | refine at_skip (by with_unfolding_all exact rfl) ?_ | refine at_label (by with_unfolding_all exact rfl) ?_) <;> try simp -implicitDefEqProofs (maxSteps := 1000000) only [go_sem, seval, *]) | (with_reducible first | refine at_block (by with_unfolding_all exact rfl) ?_ | refine at_loop (by with_unfolding_all exact rfl) ?_) | ((first | ((with_reducible refine NewK.intro fun g hg hn => ?_) <;> try simp only [own_none_iff] at hn) | ((with_reducible first | refine GuardB.split (fun hc => ?_) (fun hc => ?_) | refine CondK.split (fun hc => ?_) (fun hc => ?_) | refine PickK.split (fun hc => ?_) (fun hc => ?_) | refine GuardD.split (fun hc => ?_) (fun hc => ?_)) <;> (have hc2 := hc; try simp only [beq_eq_false_iff_ne, beq_iff_eq, ne_eq, bne_iff_ne, bne_eq_false_iff_eq, decide_eq_true_eq, decide_eq_false_iff_not, Bool.not_true, Bool.not_false, Int.not_le, Int.not_lt] at hc2)) | (with_reducible first | refine dop_buildSlice ?_ | refine dop_build ?_) | ((with_reducible refine Cr.call (f := 60) (withinB_ok _ _ _ _ _ _ _ (by simp -implicitDefEqProofs (maxSteps := 1000000) only [go_sem, seval, *]) ⟨by decide⟩) ?_)) | (with_reducible refine CallV.of (f := 60) (withinB_ok _ _ _ _ _ _ _ (by simp -implicitDefEqProofs (maxSteps := 1000000) only [go_sem, seval, *]) ⟨by decide⟩) ni60 ?_)) <;> simp -implicitDefEqProofs (maxSteps := 1000000) only [go_sem, seval, *]))
  | false =>
    (refine Cr.ofP (l := _) Try.func62 Try.ntmps62 rfl rfl (by simp only [seval, List.length_cons, List.length_nil]) (by simp only [seval, List.length_cons, List.length_nil]) (fun F hF => ?_); simp only [Try.results62, List.map_cons, List.map_nil])
    subst hF
    repeat' (first | (with_reducible refine at_seq (by with_unfolding_all exact rfl) ?_) | ((with_reducible first | refine at_plain (by with_unfolding_all exact rfl) ?_ | refine at_cond (by with_unfolding_all exact rfl) ?_ | refine at_exit (by with_unfolding_all exact rfl) ?_ | refine at_ret (by with_unfolding_all exact rfl) ?_ | refine at_skip (by with_unfolding_all exact rfl) ?_ | refine at_label (by with_unfolding_all exact rfl) ?_) <;> try simp -implicitDefEqProofs (maxSteps := 1000000) only [go_sem, seval, *]) | (with_reducible first | refine at_block (by with_unfolding_all exact rfl) ?_ | refine at_loop (by with_unfolding_all exact rfl) ?_) | ((first | ((with_reducible refine NewK.intro fun g hg hn => ?_) <;> try simp only [own_none_iff] at hn) | ((with_reducible first | refine GuardB.split (fun hc => ?_) (fun hc => ?_) | refine CondK.split (fun hc => ?_) (fun hc => ?_) | refine PickK.split (fun hc => ?_) (fun hc => ?_) | refine GuardD.split (fun hc => ?_) (fun hc => ?_)) <;> (have hc2 := hc; try simp only [beq_eq_false_iff_ne, beq_iff_eq, ne_eq, bne_iff_ne, bne_eq_false_iff_eq, decide_eq_true_eq, decide_eq_false_iff_not, Bool.not_true, Bool.not_false, Int.not_le, Int.not_lt] at hc2)) | (with_reducible first | refine dop_buildSlice ?_ | refine dop_build ?_) | ((with_reducible refine Cr.call (f := 60) (withinB_ok _ _ _ _ _ _ _ (by simp -implicitDefEqProofs (maxSteps := 1000000) only [go_sem, seval, *]) ⟨by decide⟩) ?_)) | (with_reducible refine CallV.of (f := 60) (withinB_ok _ _ _ _ _ _ _ (by simp -implicitDefEqProofs (maxSteps := 1000000) only [go_sem, seval, *]) ⟨by decide⟩) ni60 ?_)) <;> simp -implicitDefEqProofs (maxSteps := 1000000) only [go_sem, seval, *]))
/-- An order. -/
structure Ord where
  pc : Int
  st : Int
  z0 : Int
  z1 : Int
def oC (o : Ord) : List Value := [.int .i64 o.pc, .int .i64 o.st, .int .i64 o.z0, .int .i64 o.z1]
theorem oC_len (o : Ord) : (oC o).length = 4 := rfl
/-- The error of orders. -/
def ordE (nw : Nat) : List Ord → Int
  | [] => 0
  | o :: r => if (!allI 1 10000 [o.pc] || !spB 0 10000000000 o.z0 o.z1) = true then 2 else if steelE nw o.st = 0 then ordE nw r else steelE nw o.st
def chkV (s0 s1 c0 c1 : Int) (ws : List (Int × Int)) (os : List Ord) : Int :=
  if toolE s0 s1 c0 c1 ws = 5 ∨ 40 < os.length then 5
  else if toolE s0 s1 c0 c1 ws = 0 then (if ordE ws.length os = 0 then (if os.length = 0 then 2 else 0) else ordE ws.length os) else toolE s0 s1 c0 c1 ws
theorem toolE_cases (s0 s1 c0 c1 : Int) (ws : List (Int × Int)) : toolE s0 s1 c0 c1 ws = 5 ∨ toolE s0 s1 c0 c1 ws = 2 ∨ toolE s0 s1 c0 c1 ws = 0 := by
  unfold toolE
  split
  · exact .inl rfl
  · split
    · exact .inr (.inl rfl)
    · exact .inr (.inr rfl)
def IChk (nw no co : Nat) (po : Option Addr) (g2 : Nat) (os : List Ord) (H0 : Hp) (k' : Nat) (a : Act) (h : Hp) : Prop :=
  ∃ (i : Nat) (x : Nat → Value), Hold (i + k' = no) ∧ Hold (ordE nw os = ordE nw (os.drop i)) ∧ h = H0 ∧ a = ⟨fl 49 x [[none, some (.slice po no co), some (.pointer (some ⟨g2, 0, none⟩))], [none, none, none, none, none, some (.slice po no co), some (.int .i64 no), some (.int .i64 i)]], []⟩
theorem ordE_cons (nw : Nat) (o : Ord) (r : List Ord) (b1 b2 : Bool) (e : Int) (h1 : (decide (1 ≤ o.pc) && decide (o.pc ≤ 10000)) = b1) (h2 : spB 0 10000000000 o.z0 o.z1 = b2) (h3 : steelE nw o.st = e) :
    ordE nw (o :: r) = if (!b1 || !b2) = true then 2 else if e = 0 then ordE nw r else e := by
  have : allI 1 10000 [o.pc] = b1 := by rw [← h1]; simp [allI]
  rw [ordE, this, h2, h3]
theorem steelE_cases (nw : Nat) (st : Int) : steelE nw st = 0 ∨ steelE nw st = 7 := by
  unfold steelE
  split
  · exact .inl rfl
  · exact .inr rfl
set_option maxHeartbeats 4000000 in
theorem Check_ok (ro : Addr → Option Value) (dn : Bool) (s0 s1 c0 c1 : Int) (pw : Option Addr) (nw cw : Nat) (ws : List (Int × Int)) (po : Option Addr) (no co : Nat) (os : List Ord)
    (hx : RdS ro pw nw 2 (ws.flatMap spC)) (hb : Hold (nw < 9223372036854775808)) (hy : RdS ro po no 4 (os.flatMap oC)) (hb' : Hold (no < 9223372036854775808)) :
    Cr Try.prog 17 #[.agg #[.bool dn, .int .i64 s0, .int .i64 s1, .int .i64 c0, .int .i64 c1, .slice pw nw cw], .slice po no co] ro (.int .i64 (chkV s0 s1 c0 c1 ws os)) := by
  have hlen := hx.count spC_len (by decide)
  have hlen' := hy.count oC_len (by decide)
  replace hx := Hold.mk hx
  replace hy := Hold.mk hy
  have hT := toolE_cases s0 s1 c0 c1 ws
  unfold chkV
  rw [hlen, hlen']
  obtain ⟨t, ht⟩ : ∃ t, t = toolE s0 s1 c0 c1 ws := ⟨_, rfl⟩
  have cT : Hold (∀ ro, RdS ro pw nw 2 (ws.flatMap spC) → Cr Try.prog 59 #[.agg #[.bool dn, .int .i64 s0, .int .i64 s1, .int .i64 c0, .int .i64 c1, .slice pw nw cw]] ro (.int .i64 t)) := ⟨fun ro h => by rw [ht]; exact checkTool_ok ro dn s0 s1 c0 c1 pw nw cw ws h hb⟩
  rw [← ht] at hT ⊢
  clear ht
  by_cases h40 : 40 < no
  · rw [if_pos (.inr h40)]
    have q1 : ((no : Int) > 40) = True := by simp only [eq_iff_iff, iff_true]; omega
    clear hlen hlen' h40
    rcases hT with rfl | rfl | rfl
    all_goals
      (refine Cr.ofP (l := _) Try.func17 Try.ntmps17 rfl rfl (by simp only [seval, List.length_cons, List.length_nil]) (by simp only [seval, List.length_cons, List.length_nil]) (fun F hF => ?_); simp only [Try.results17, List.map_cons, List.map_nil])
      subst hF
      repeat' (first | (with_reducible refine at_seq (by with_unfolding_all exact rfl) ?_) | ((with_reducible first | refine at_plain (by with_unfolding_all exact rfl) ?_ | refine at_cond (by with_unfolding_all exact rfl) ?_ | refine at_exit (by with_unfolding_all exact rfl) ?_ | refine at_ret (by with_unfolding_all exact rfl) ?_ | refine at_skip (by with_unfolding_all exact rfl) ?_ | refine at_label (by with_unfolding_all exact rfl) ?_) <;> try simp -implicitDefEqProofs (maxSteps := 1000000) only [go_sem, seval, *]) | (with_reducible first | refine at_block (by with_unfolding_all exact rfl) ?_ | refine at_loop (by with_unfolding_all exact rfl) ?_) | ((first | ((with_reducible refine NewK.intro fun g hg hn => ?_) <;> try simp only [own_none_iff] at hn) | ((with_reducible first | refine GuardB.split (fun hc => ?_) (fun hc => ?_) | refine CondK.split (fun hc => ?_) (fun hc => ?_) | refine PickK.split (fun hc => ?_) (fun hc => ?_) | refine GuardD.split (fun hc => ?_) (fun hc => ?_)) <;> (have hc2 := hc; try simp only [beq_eq_false_iff_ne, beq_iff_eq, ne_eq, bne_iff_ne, bne_eq_false_iff_eq, decide_eq_true_eq, decide_eq_false_iff_not, Bool.not_true, Bool.not_false, Int.not_le, Int.not_lt] at hc2)) | (with_reducible first | refine dop_buildSlice ?_ | refine dop_build ?_) | ((with_reducible refine Cr.call (f := 59) (cT.out _ (hx.out.mono (fun a u e => Hp.cell_ro e))) ?_)) | (with_reducible refine CallV.of (f := 59) (cT.out _ (hx.out.mono (fun a u e => Hp.cell_ro e))) ni59 ?_)) <;> simp -implicitDefEqProofs (maxSteps := 1000000) only [go_sem, seval, *]))
  · have q1 : ((no : Int) > 40) = False := by simp only [eq_iff_iff, iff_false]; omega
    rcases hT with rfl | rfl | rfl
    · rw [if_pos (.inl rfl)]
      clear hlen hlen' h40
      (refine Cr.ofP (l := _) Try.func17 Try.ntmps17 rfl rfl (by simp only [seval, List.length_cons, List.length_nil]) (by simp only [seval, List.length_cons, List.length_nil]) (fun F hF => ?_); simp only [Try.results17, List.map_cons, List.map_nil])
      subst hF
      repeat' (first | (with_reducible refine at_seq (by with_unfolding_all exact rfl) ?_) | ((with_reducible first | refine at_plain (by with_unfolding_all exact rfl) ?_ | refine at_cond (by with_unfolding_all exact rfl) ?_ | refine at_exit (by with_unfolding_all exact rfl) ?_ | refine at_ret (by with_unfolding_all exact rfl) ?_ | refine at_skip (by with_unfolding_all exact rfl) ?_ | refine at_label (by with_unfolding_all exact rfl) ?_) <;> try simp -implicitDefEqProofs (maxSteps := 1000000) only [go_sem, seval, *]) | (with_reducible first | refine at_block (by with_unfolding_all exact rfl) ?_ | refine at_loop (by with_unfolding_all exact rfl) ?_) | ((first | ((with_reducible refine NewK.intro fun g hg hn => ?_) <;> try simp only [own_none_iff] at hn) | ((with_reducible first | refine GuardB.split (fun hc => ?_) (fun hc => ?_) | refine CondK.split (fun hc => ?_) (fun hc => ?_) | refine PickK.split (fun hc => ?_) (fun hc => ?_) | refine GuardD.split (fun hc => ?_) (fun hc => ?_)) <;> (have hc2 := hc; try simp only [beq_eq_false_iff_ne, beq_iff_eq, ne_eq, bne_iff_ne, bne_eq_false_iff_eq, decide_eq_true_eq, decide_eq_false_iff_not, Bool.not_true, Bool.not_false, Int.not_le, Int.not_lt] at hc2)) | (with_reducible first | refine dop_buildSlice ?_ | refine dop_build ?_) | ((with_reducible refine Cr.call (f := 59) (cT.out _ (hx.out.mono (fun a u e => Hp.cell_ro e))) ?_)) | (with_reducible refine CallV.of (f := 59) (cT.out _ (hx.out.mono (fun a u e => Hp.cell_ro e))) ni59 ?_)) <;> simp -implicitDefEqProofs (maxSteps := 1000000) only [go_sem, seval, *]))
    · rw [if_neg (by omega), if_neg (by decide)]
      clear hlen hlen' h40
      (refine Cr.ofP (l := _) Try.func17 Try.ntmps17 rfl rfl (by simp only [seval, List.length_cons, List.length_nil]) (by simp only [seval, List.length_cons, List.length_nil]) (fun F hF => ?_); simp only [Try.results17, List.map_cons, List.map_nil])
      subst hF
      repeat' (first | (with_reducible refine at_seq (by with_unfolding_all exact rfl) ?_) | ((with_reducible first | refine at_plain (by with_unfolding_all exact rfl) ?_ | refine at_cond (by with_unfolding_all exact rfl) ?_ | refine at_exit (by with_unfolding_all exact rfl) ?_ | refine at_ret (by with_unfolding_all exact rfl) ?_ | refine at_skip (by with_unfolding_all exact rfl) ?_ | refine at_label (by with_unfolding_all exact rfl) ?_) <;> try simp -implicitDefEqProofs (maxSteps := 1000000) only [go_sem, seval, *]) | (with_reducible first | refine at_block (by with_unfolding_all exact rfl) ?_ | refine at_loop (by with_unfolding_all exact rfl) ?_) | ((first | ((with_reducible refine NewK.intro fun g hg hn => ?_) <;> try simp only [own_none_iff] at hn) | ((with_reducible first | refine GuardB.split (fun hc => ?_) (fun hc => ?_) | refine CondK.split (fun hc => ?_) (fun hc => ?_) | refine PickK.split (fun hc => ?_) (fun hc => ?_) | refine GuardD.split (fun hc => ?_) (fun hc => ?_)) <;> (have hc2 := hc; try simp only [beq_eq_false_iff_ne, beq_iff_eq, ne_eq, bne_iff_ne, bne_eq_false_iff_eq, decide_eq_true_eq, decide_eq_false_iff_not, Bool.not_true, Bool.not_false, Int.not_le, Int.not_lt] at hc2)) | (with_reducible first | refine dop_buildSlice ?_ | refine dop_build ?_) | ((with_reducible refine Cr.call (f := 59) (cT.out _ (hx.out.mono (fun a u e => Hp.cell_ro e))) ?_)) | (with_reducible refine CallV.of (f := 59) (cT.out _ (hx.out.mono (fun a u e => Hp.cell_ro e))) ni59 ?_)) <;> simp -implicitDefEqProofs (maxSteps := 1000000) only [go_sem, seval, *]))
    · rw [if_neg (by omega), if_pos rfl]
      clear h40
      (refine Cr.ofP (l := _) Try.func17 Try.ntmps17 rfl rfl (by simp only [seval, List.length_cons, List.length_nil]) (by simp only [seval, List.length_cons, List.length_nil]) (fun F hF => ?_); simp only [Try.results17, List.map_cons, List.map_nil])
      subst hF
      repeat' (first | (with_reducible refine at_seq (by with_unfolding_all exact rfl) ?_) | ((with_reducible first | refine at_plain (by with_unfolding_all exact rfl) ?_ | refine at_cond (by with_unfolding_all exact rfl) ?_ | refine at_exit (by with_unfolding_all exact rfl) ?_ | refine at_ret (by with_unfolding_all exact rfl) ?_ | refine at_skip (by with_unfolding_all exact rfl) ?_ | refine at_label (by with_unfolding_all exact rfl) ?_) <;> try simp -implicitDefEqProofs (maxSteps := 1000000) only [go_sem, seval, *]) | (with_reducible first | refine at_block (by with_unfolding_all exact rfl) ?_ | refine at_loop (by with_unfolding_all exact rfl) ?_) | ((first | ((with_reducible refine NewK.intro fun g hg hn => ?_) <;> try simp only [own_none_iff] at hn) | ((with_reducible first | refine GuardB.split (fun hc => ?_) (fun hc => ?_) | refine CondK.split (fun hc => ?_) (fun hc => ?_) | refine PickK.split (fun hc => ?_) (fun hc => ?_) | refine GuardD.split (fun hc => ?_) (fun hc => ?_)) <;> (have hc2 := hc; try simp only [beq_eq_false_iff_ne, beq_iff_eq, ne_eq, bne_iff_ne, bne_eq_false_iff_eq, decide_eq_true_eq, decide_eq_false_iff_not, Bool.not_true, Bool.not_false, Int.not_le, Int.not_lt] at hc2)) | (with_reducible first | refine dop_buildSlice ?_ | refine dop_build ?_) | ((with_reducible refine Cr.call (f := 59) (cT.out _ (hx.out.mono (fun a u e => Hp.cell_ro e))) ?_)) | (with_reducible refine CallV.of (f := 59) (cT.out _ (hx.out.mono (fun a u e => Hp.cell_ro e))) ni59 ?_)) <;> simp -implicitDefEqProofs (maxSteps := 1000000) only [go_sem, seval, *]))
      have nw63 := hb.out
      have no63 := hb'.out
      obtain ⟨H0, hH⟩ : ∃ H0, H0 = (Hp.none_.set g (.cells #[.bool dn, .int .i64 s0, .int .i64 s1, .int .i64 c0, .int .i64 c1, .slice pw nw cw] 26)) := ⟨_, rfl⟩
      have u2 : H0.own g = some (.cells #[.bool dn, .int .i64 s0, .int .i64 s1, .int .i64 c0, .int .i64 c1, .slice pw nw cw] 26) := by rw [hH, Hp.own_set, if_pos rfl]
      rw [← hH]
      clear hH
      generalize hgg : g = g2 at *
      clear hgg hn cT hx hb
      refine DLoop.indW (IChk nw no co po g2 os H0) no ⟨0, _, ⟨by omega⟩, ⟨by simp⟩, rfl, fl_re (by kernel_rfl)⟩ ?_
      (rintro k' a h ⟨i, x, fa0, fa1, rfl, rfl⟩)
      have hk := fa0.out
      have hI := fa1.out
      have v2 := own_ne u2
      clear fa0 fa1
      by_cases hlt : i < no
      · have i0 : (0 : Int) ≤ (i : Int) := by omega
        have i1 : ((i : Int) < (no : Int)) = True := by simp only [eq_iff_iff, iff_true]; omega
        have iw : IntKind.i64.wrap ((i : Int) + 1) = ((i + 1 : Nat) : Int) := by rw [IntWalk.i64_in _ (by omega)]; push_cast; rfl
        have hxi : os[i]? = some os[i] := List.getElem?_eq_getElem (by omega)
        obtain ⟨b, off, rfl, hro⟩ := hy.out.at oC_len hlt hxi
        have r0 := hro 0 _ rfl
        have r1 := hro 1 _ rfl
        have r2 := hro 2 _ rfl
        have r3 := hro 3 _ rfl
        rw [Nat.add_zero] at r0
        have hd : os.drop i = os[i] :: os.drop (i + 1) := List.drop_eq_getElem_cons (by omega)
        rw [hd] at hI
        generalize os[i] = o at *
        obtain ⟨b1, hb1⟩ : ∃ b1, (decide (1 ≤ o.pc) && decide (o.pc ≤ 10000)) = b1 := ⟨_, rfl⟩
        obtain ⟨b2, hb2⟩ : ∃ b2, spB 0 10000000000 o.z0 o.z1 = b2 := ⟨_, rfl⟩
        obtain ⟨e, he⟩ : ∃ e, steelE nw o.st = e := ⟨_, rfl⟩
        have hst : Hold (∀ ro, Cr Try.prog 62 #[.agg #[.bool dn, .int .i64 s0, .int .i64 s1, .int .i64 c0, .int .i64 c1, .slice pw nw cw], .int .i64 o.st] ro (.int .i64 e)) := ⟨fun ro => by rw [← he]; exact hasSteel_ok ro dn s0 s1 c0 c1 pw nw cw o.st nw63⟩
        have ec := steelE_cases nw o.st
        rw [he] at ec
        rw [ordE_cons nw o _ b1 b2 e hb1 hb2 he] at hI
        replace hI := Hold.mk hI
        replace hk := Hold.mk hk
        clear hro hd hxi he hlen hlen' hb'
        cases b1 with
        | false =>
          repeat' (first | (with_reducible refine at_seq (by with_unfolding_all exact rfl) ?_) | ((with_reducible first | refine at_plain (by with_unfolding_all exact rfl) ?_ | refine at_cond (by with_unfolding_all exact rfl) ?_ | refine at_exit (by with_unfolding_all exact rfl) ?_ | refine at_ret (by with_unfolding_all exact rfl) ?_ | refine at_skip (by with_unfolding_all exact rfl) ?_ | refine at_label (by with_unfolding_all exact rfl) ?_) <;> try simp -implicitDefEqProofs (maxSteps := 1000000) only [go_sem, seval, *]) | (with_reducible first | refine at_block (by with_unfolding_all exact rfl) ?_ | refine at_loop (by with_unfolding_all exact rfl) ?_) | ((first | ((with_reducible refine NewK.intro fun g hg hn => ?_) <;> try simp only [own_none_iff] at hn) | ((with_reducible first | refine GuardB.split (fun hc => ?_) (fun hc => ?_) | refine CondK.split (fun hc => ?_) (fun hc => ?_) | refine PickK.split (fun hc => ?_) (fun hc => ?_) | refine GuardD.split (fun hc => ?_) (fun hc => ?_)) <;> (have hc2 := hc; try simp only [beq_eq_false_iff_ne, beq_iff_eq, ne_eq, bne_iff_ne, bne_eq_false_iff_eq, decide_eq_true_eq, decide_eq_false_iff_not, Bool.not_true, Bool.not_false, Int.not_le, Int.not_lt] at hc2)) | (with_reducible first | refine dop_buildSlice ?_ | refine dop_build ?_) | ((with_reducible refine Cr.call (f := 60) (withinB_ok _ _ _ _ _ _ _ (by simp -implicitDefEqProofs (maxSteps := 1000000) only [go_sem, seval, *]) ⟨by decide⟩) ?_)) | (with_reducible refine CallV.of (f := 60) (withinB_ok _ _ _ _ _ _ _ (by simp -implicitDefEqProofs (maxSteps := 1000000) only [go_sem, seval, *]) ⟨by decide⟩) ni60 ?_)) <;> simp -implicitDefEqProofs (maxSteps := 1000000) only [go_sem, seval, *]))
          have hI := hI.out
          rw [if_pos (by simp)] at hI
          rw [hI]
          simp
        | true =>
          cases b2 with
          | false =>
            repeat' (first | (with_reducible refine at_seq (by with_unfolding_all exact rfl) ?_) | ((with_reducible first | refine at_plain (by with_unfolding_all exact rfl) ?_ | refine at_cond (by with_unfolding_all exact rfl) ?_ | refine at_exit (by with_unfolding_all exact rfl) ?_ | refine at_ret (by with_unfolding_all exact rfl) ?_ | refine at_skip (by with_unfolding_all exact rfl) ?_ | refine at_label (by with_unfolding_all exact rfl) ?_) <;> try simp -implicitDefEqProofs (maxSteps := 1000000) only [go_sem, seval, *]) | (with_reducible first | refine at_block (by with_unfolding_all exact rfl) ?_ | refine at_loop (by with_unfolding_all exact rfl) ?_) | ((first | ((with_reducible refine NewK.intro fun g hg hn => ?_) <;> try simp only [own_none_iff] at hn) | ((with_reducible first | refine GuardB.split (fun hc => ?_) (fun hc => ?_) | refine CondK.split (fun hc => ?_) (fun hc => ?_) | refine PickK.split (fun hc => ?_) (fun hc => ?_) | refine GuardD.split (fun hc => ?_) (fun hc => ?_)) <;> (have hc2 := hc; try simp only [beq_eq_false_iff_ne, beq_iff_eq, ne_eq, bne_iff_ne, bne_eq_false_iff_eq, decide_eq_true_eq, decide_eq_false_iff_not, Bool.not_true, Bool.not_false, Int.not_le, Int.not_lt] at hc2)) | (with_reducible first | refine dop_buildSlice ?_ | refine dop_build ?_) | ((with_reducible refine Cr.call (f := 60) (withinB_ok _ _ _ _ _ _ _ (by simp -implicitDefEqProofs (maxSteps := 1000000) only [go_sem, seval, *]) ⟨by decide⟩) ?_)) | (with_reducible refine CallV.of (f := 60) (withinB_ok _ _ _ _ _ _ _ (by simp -implicitDefEqProofs (maxSteps := 1000000) only [go_sem, seval, *]) ⟨by decide⟩) ni60 ?_) | ((with_reducible refine Cr.call (f := 61) (isZone_ok _ _ _) ?_)) | (with_reducible refine CallV.of (f := 61) (isZone_ok _ _ _) ni61 ?_)) <;> simp -implicitDefEqProofs (maxSteps := 1000000) only [go_sem, seval, *]))
            have hI := hI.out
            rw [if_pos (by simp)] at hI
            rw [hI]
            simp
          | true =>
            rcases ec with rfl | rfl
            · repeat' (first | (with_reducible refine at_seq (by with_unfolding_all exact rfl) ?_) | ((with_reducible first | refine at_plain (by with_unfolding_all exact rfl) ?_ | refine at_cond (by with_unfolding_all exact rfl) ?_ | refine at_exit (by with_unfolding_all exact rfl) ?_ | refine at_ret (by with_unfolding_all exact rfl) ?_ | refine at_skip (by with_unfolding_all exact rfl) ?_ | refine at_label (by with_unfolding_all exact rfl) ?_) <;> try simp -implicitDefEqProofs (maxSteps := 1000000) only [go_sem, seval, *]) | (with_reducible first | refine at_block (by with_unfolding_all exact rfl) ?_ | refine at_loop (by with_unfolding_all exact rfl) ?_) | ((first | ((with_reducible refine NewK.intro fun g hg hn => ?_) <;> try simp only [own_none_iff] at hn) | ((with_reducible first | refine GuardB.split (fun hc => ?_) (fun hc => ?_) | refine CondK.split (fun hc => ?_) (fun hc => ?_) | refine PickK.split (fun hc => ?_) (fun hc => ?_) | refine GuardD.split (fun hc => ?_) (fun hc => ?_)) <;> (have hc2 := hc; try simp only [beq_eq_false_iff_ne, beq_iff_eq, ne_eq, bne_iff_ne, bne_eq_false_iff_eq, decide_eq_true_eq, decide_eq_false_iff_not, Bool.not_true, Bool.not_false, Int.not_le, Int.not_lt] at hc2)) | (with_reducible first | refine dop_buildSlice ?_ | refine dop_build ?_) | ((with_reducible refine Cr.call (f := 60) (withinB_ok _ _ _ _ _ _ _ (by simp -implicitDefEqProofs (maxSteps := 1000000) only [go_sem, seval, *]) ⟨by decide⟩) ?_)) | (with_reducible refine CallV.of (f := 60) (withinB_ok _ _ _ _ _ _ _ (by simp -implicitDefEqProofs (maxSteps := 1000000) only [go_sem, seval, *]) ⟨by decide⟩) ni60 ?_) | ((with_reducible refine Cr.call (f := 61) (isZone_ok _ _ _) ?_)) | (with_reducible refine CallV.of (f := 61) (isZone_ok _ _ _) ni61 ?_) | ((with_reducible refine Cr.call (f := 62) (hst.out _) ?_)) | (with_reducible refine CallV.of (f := 62) (hst.out _) ni62 ?_)) <;> simp -implicitDefEqProofs (maxSteps := 1000000) only [go_sem, seval, *]))
              have hI := hI.out
              have hk := hk.out
              rw [if_neg (by simp), if_pos rfl] at hI
              refine LoopW.intro (k' - 1) h (by omega) ?_ ⟨i + 1, _, ⟨by omega⟩, ⟨hI⟩, rfl, fl_re (by kernel_rfl)⟩
              intro y oy ey
              have := own_ne ey
              simp -implicitDefEqProofs (maxSteps := 1000000) only [go_sem, seval, *]
            · repeat' (first | (with_reducible refine at_seq (by with_unfolding_all exact rfl) ?_) | ((with_reducible first | refine at_plain (by with_unfolding_all exact rfl) ?_ | refine at_cond (by with_unfolding_all exact rfl) ?_ | refine at_exit (by with_unfolding_all exact rfl) ?_ | refine at_ret (by with_unfolding_all exact rfl) ?_ | refine at_skip (by with_unfolding_all exact rfl) ?_ | refine at_label (by with_unfolding_all exact rfl) ?_) <;> try simp -implicitDefEqProofs (maxSteps := 1000000) only [go_sem, seval, *]) | (with_reducible first | refine at_block (by with_unfolding_all exact rfl) ?_ | refine at_loop (by with_unfolding_all exact rfl) ?_) | ((first | ((with_reducible refine NewK.intro fun g hg hn => ?_) <;> try simp only [own_none_iff] at hn) | ((with_reducible first | refine GuardB.split (fun hc => ?_) (fun hc => ?_) | refine CondK.split (fun hc => ?_) (fun hc => ?_) | refine PickK.split (fun hc => ?_) (fun hc => ?_) | refine GuardD.split (fun hc => ?_) (fun hc => ?_)) <;> (have hc2 := hc; try simp only [beq_eq_false_iff_ne, beq_iff_eq, ne_eq, bne_iff_ne, bne_eq_false_iff_eq, decide_eq_true_eq, decide_eq_false_iff_not, Bool.not_true, Bool.not_false, Int.not_le, Int.not_lt] at hc2)) | (with_reducible first | refine dop_buildSlice ?_ | refine dop_build ?_) | ((with_reducible refine Cr.call (f := 60) (withinB_ok _ _ _ _ _ _ _ (by simp -implicitDefEqProofs (maxSteps := 1000000) only [go_sem, seval, *]) ⟨by decide⟩) ?_)) | (with_reducible refine CallV.of (f := 60) (withinB_ok _ _ _ _ _ _ _ (by simp -implicitDefEqProofs (maxSteps := 1000000) only [go_sem, seval, *]) ⟨by decide⟩) ni60 ?_) | ((with_reducible refine Cr.call (f := 61) (isZone_ok _ _ _) ?_)) | (with_reducible refine CallV.of (f := 61) (isZone_ok _ _ _) ni61 ?_) | ((with_reducible refine Cr.call (f := 62) (hst.out _) ?_)) | (with_reducible refine CallV.of (f := 62) (hst.out _) ni62 ?_)) <;> simp -implicitDefEqProofs (maxSteps := 1000000) only [go_sem, seval, *]))
              have hI := hI.out
              rw [if_neg (by simp), if_neg (by decide)] at hI
              rw [hI]
              simp
      · have i1 : ((i : Int) < (no : Int)) = False := by simp only [eq_iff_iff, iff_false]; omega
        rw [List.drop_eq_nil_of_le (by omega), ordE] at hI
        rw [hI, if_pos rfl]
        by_cases h0 : no = 0
        · have q2 : ((no : Int) == 0) = true := by simpa using h0
          rw [if_pos h0]
          clear hk hI hlen hlen' h0
          repeat' (first | (with_reducible refine at_seq (by with_unfolding_all exact rfl) ?_) | ((with_reducible first | refine at_plain (by with_unfolding_all exact rfl) ?_ | refine at_cond (by with_unfolding_all exact rfl) ?_ | refine at_exit (by with_unfolding_all exact rfl) ?_ | refine at_ret (by with_unfolding_all exact rfl) ?_ | refine at_skip (by with_unfolding_all exact rfl) ?_ | refine at_label (by with_unfolding_all exact rfl) ?_) <;> try simp -implicitDefEqProofs (maxSteps := 1000000) only [go_sem, seval, *]) | (with_reducible first | refine at_block (by with_unfolding_all exact rfl) ?_ | refine at_loop (by with_unfolding_all exact rfl) ?_) | ((first | ((with_reducible refine NewK.intro fun g hg hn => ?_) <;> try simp only [own_none_iff] at hn) | ((with_reducible first | refine GuardB.split (fun hc => ?_) (fun hc => ?_) | refine CondK.split (fun hc => ?_) (fun hc => ?_) | refine PickK.split (fun hc => ?_) (fun hc => ?_) | refine GuardD.split (fun hc => ?_) (fun hc => ?_)) <;> (have hc2 := hc; try simp only [beq_eq_false_iff_ne, beq_iff_eq, ne_eq, bne_iff_ne, bne_eq_false_iff_eq, decide_eq_true_eq, decide_eq_false_iff_not, Bool.not_true, Bool.not_false, Int.not_le, Int.not_lt] at hc2)) | (with_reducible first | refine dop_buildSlice ?_ | refine dop_build ?_)) <;> simp -implicitDefEqProofs (maxSteps := 1000000) only [go_sem, seval, *]))
        · have q2 : ((no : Int) == 0) = false := by simpa using h0
          rw [if_neg h0]
          clear hk hI hlen hlen' h0
          repeat' (first | (with_reducible refine at_seq (by with_unfolding_all exact rfl) ?_) | ((with_reducible first | refine at_plain (by with_unfolding_all exact rfl) ?_ | refine at_cond (by with_unfolding_all exact rfl) ?_ | refine at_exit (by with_unfolding_all exact rfl) ?_ | refine at_ret (by with_unfolding_all exact rfl) ?_ | refine at_skip (by with_unfolding_all exact rfl) ?_ | refine at_label (by with_unfolding_all exact rfl) ?_) <;> try simp -implicitDefEqProofs (maxSteps := 1000000) only [go_sem, seval, *]) | (with_reducible first | refine at_block (by with_unfolding_all exact rfl) ?_ | refine at_loop (by with_unfolding_all exact rfl) ?_) | ((first | ((with_reducible refine NewK.intro fun g hg hn => ?_) <;> try simp only [own_none_iff] at hn) | ((with_reducible first | refine GuardB.split (fun hc => ?_) (fun hc => ?_) | refine CondK.split (fun hc => ?_) (fun hc => ?_) | refine PickK.split (fun hc => ?_) (fun hc => ?_) | refine GuardD.split (fun hc => ?_) (fun hc => ?_)) <;> (have hc2 := hc; try simp only [beq_eq_false_iff_ne, beq_iff_eq, ne_eq, bne_iff_ne, bne_eq_false_iff_eq, decide_eq_true_eq, decide_eq_false_iff_not, Bool.not_true, Bool.not_false, Int.not_le, Int.not_lt] at hc2)) | (with_reducible first | refine dop_buildSlice ?_ | refine dop_build ?_)) <;> simp -implicitDefEqProofs (maxSteps := 1000000) only [go_sem, seval, *]))

end Go.Proofs.Ytlbpfmnobapidaa
