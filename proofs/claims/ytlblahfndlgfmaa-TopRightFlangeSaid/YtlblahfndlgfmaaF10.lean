/-
  Walks. Conditions: none.
-/
import Derived.Test.YtlblahfndlgfmaaF9
import Derived.Test.YtlblahfndlgfmaaS23
set_option linter.unusedVariables false
set_option linter.unusedSimpArgs false
namespace Go.Proofs.Ytlblahfndlgfmaa
open Go.RowKit Go.SL
set_option maxHeartbeats 1000000
set_option maxRecDepth 1000000
attribute [local go_sem] fl_getD fl_get fl_set lk_def st_def gL_nil gL_zero gL_succ sL_nil_zero sL_nil_succ sL_zero sL_succ Option.getD_none FgK_app onlyL_nil onlyL_none onlyL_some setO_some toB_bool toB_undef yl_def
attribute [local go_sem high] GuardK_yl GuardL_yl
attribute [local go_sem] initL_one initL_cons lastL_one lastL_cons LastK_app fin_round Fr.inr_w0 Fr.inr_ro Fr.inr_M cell_inr LoopO_some YieldK_some RoundQ_normal RoundQ_ret RoundQ_exit EndR_none EndR_some BegK_app BegR_some OutR_none OutR_ret OutR_exit LeftR_some LeftK_app
attribute [local go_sem] i64w
attribute [local go_sem] dwp_eqGuardE dwp_eqGuardN rval_eqGuardE rval_eqGuardN
attribute [local go_sem] add_none
theorem RunI.p0 {S0 : Hp} {gf gF gL n gs so sn sc cF cL : Nat} {ld th hd ot0 ot1 oh0 oh1 st0 st1 sp0 sp1 yi0 yi1 nd : Int} {s : FlSt} {h : Hp} (q : RunI S0 gf gF gL n gs so sn sc cF cL ld th hd ot0 ot1 oh0 oh1 st0 st1 sp0 sp1 yi0 yi1 nd s h) : ∀ g o, S0.own g = some o → h.own g = some o := q.1
theorem RunI.p1 {S0 : Hp} {gf gF gL n gs so sn sc cF cL : Nat} {ld th hd ot0 ot1 oh0 oh1 st0 st1 sp0 sp1 yi0 yi1 nd : Int} {s : FlSt} {h : Hp} (q : RunI S0 gf gF gL n gs so sn sc cF cL ld th hd ot0 ot1 oh0 oh1 st0 st1 sp0 sp1 yi0 yi1 nd s h) : h.own gf = some (.cells #[.int .i64 n, .int .i64 ld, .int .i64 th, .int .i64 hd, .int .i64 ot0, .int .i64 ot1, .int .i64 oh0, .int .i64 oh1, .int .i64 st0, .int .i64 st1, .int .i64 sp0, .int .i64 sp1, .int .i64 yi0, .int .i64 yi1, .slice (some ⟨gs, so, none⟩) sn sc, .int .i64 nd, .slice (some ⟨gF, 0, none⟩) n cF, .slice (some ⟨gL, 0, none⟩) n cL, .int .i64 s.2.2] 95) := q.2.1
theorem RunI.p2 {S0 : Hp} {gf gF gL n gs so sn sc cF cL : Nat} {ld th hd ot0 ot1 oh0 oh1 st0 st1 sp0 sp1 yi0 yi1 nd : Int} {s : FlSt} {h : Hp} (q : RunI S0 gf gF gL n gs so sn sc cF cL ld th hd ot0 ot1 oh0 oh1 st0 st1 sp0 sp1 yi0 yi1 nd s h) : h.own gF = some (.cells (flS s.1 n).toArray 26) := q.2.2.1
theorem RunI.p3 {S0 : Hp} {gf gF gL n gs so sn sc cF cL : Nat} {ld th hd ot0 ot1 oh0 oh1 st0 st1 sp0 sp1 yi0 yi1 nd : Int} {s : FlSt} {h : Hp} (q : RunI S0 gf gF gL n gs so sn sc cF cL ld th hd ot0 ot1 oh0 oh1 st0 st1 sp0 sp1 yi0 yi1 nd s h) : h.own gL = some (.cells (flS s.2.1 n).toArray 26) := q.2.2.2
theorem sub_setN2 {h : Hp} {a b : Nat} {x y : Obj} (ha : h.own a = none) (hb : b ≠ a ∧ a ≠ b ∧ h.own b = none) : ∀ k o, h.own k = some o → ((h.set a x).set b y).own k = some o := by
  intro k o e
  rw [Hp.own_set, if_neg (own_ne e b hb.2.2).1, Hp.own_set, if_neg (own_ne e a ha).1]
  exact e
set_option maxHeartbeats 8000000 in
theorem Run_D (F : Fr) (hT : F.top = true) (h : Hp) (K : Value → Hp → Prop) (n m : Nat) (gs so sn sc gp po pc : Nat) (sh : List Int) (ld th hd ot0 ot1 oh0 oh1 st0 st1 sp0 sp1 yi0 yi1 nd : Int) (pl : List (Int × Int))
    (hx : Hold (readI (h.cell? F) gs so sn = some sh)) (hc : Hold (fcheckV n sn sh ld th hd ot0 ot1 oh0 oh1 st0 st1 sp0 sp1 yi0 yi1 nd = 0)) (hN : Hold (3 ≤ n ∧ n ≤ 12 ∧ sn = n / 2)) (hm : Hold (m ≤ 200 ∧ pl.length = m)) (hp : Hold (∀ p ∈ pl, okSt ld th hd ot0 ot1 oh0 oh1 st0 st1 sp0 sp1 yi0 yi1 n p))
    (hs : Hold (∀ j, 0 ≤ shareV sh n j ∧ shareV sh n j ≤ 500)) (hpl : Hold (readV (h.cell? F) gp po (m * 2) = some (pl.flatMap spC)))
    (hK : Hold (∀ gF gL h', F.w0.heap.size ≤ gF → F.w0.heap.size ≤ gL → h.own gF = none → h.own gL = none → gF ≠ gL → (∀ g o, h.own g = some o → h'.own g = some o) → h'.own gF = some (.cells (flS (runF ld th hd ot0 ot1 oh0 oh1 st0 st1 sp0 sp1 yi0 yi1 sh n fl0 pl).1 n).toArray 26) → h'.own gL = some (.cells (flS (runF ld th hd ot0 ot1 oh0 oh1 st0 st1 sp0 sp1 yi0 yi1 sh n fl0 pl).2.1 n).toArray 26) →
      K (.tuple #[.agg #[.slice (some ⟨gF, 0, none⟩) n n, .int .i64 (runF ld th hd ot0 ot1 oh0 oh1 st0 st1 sp0 sp1 yi0 yi1 sh n fl0 pl).2.2, .slice (some ⟨gL, 0, none⟩) n n], .int .i64 0]) h')) :
    DCall Try.prog F 28 #[.agg #[.int .i64 n, .int .i64 ld, .int .i64 th, .int .i64 hd, .int .i64 ot0, .int .i64 ot1, .int .i64 oh0, .int .i64 oh1, .int .i64 st0, .int .i64 st1, .int .i64 sp0, .int .i64 sp1, .int .i64 yi0, .int .i64 yi1, .slice (some ⟨gs, so, none⟩) sn sc, .int .i64 nd], .slice (some ⟨gp, po, none⟩) m pc] h K := by
  refine DCall.weak ?_
  (refine DCall.inlP (l := _) Try.func28 Try.ntmps28 rfl rfl (by simp only [seval, List.length_cons, List.length_nil]) (by simp only [seval, List.length_cons, List.length_nil]) ?_; simp only [Try.results28, List.map_cons, List.map_nil])
  repeat' (first | (with_reducible refine at_seq (by with_unfolding_all exact rfl) ?_) | ((first | (with_reducible refine at_plain (by with_unfolding_all exact rfl) ?_) | (with_reducible refine at_draw (by with_unfolding_all exact rfl) ?_) | (with_reducible refine at_cond (by with_unfolding_all exact rfl) ?_) | (with_reducible refine at_exit (by with_unfolding_all exact rfl) ?_) | (with_reducible refine at_ret (by with_unfolding_all exact rfl) ?_) | (with_reducible refine at_skip (by with_unfolding_all exact rfl) ?_) | (with_reducible refine at_label (by with_unfolding_all exact rfl) ?_)) <;> try simp -implicitDefEqProofs (maxSteps := 1000000) only [go_sem, seval, *]) | (with_reducible refine at_block (by with_unfolding_all exact rfl) ?_) | (with_reducible refine at_loop (by with_unfolding_all exact rfl) ?_) | ((first | ((with_reducible refine NewK.intro fun g hg hn => ?_) <;> try simp only [own_none_iff] at hn) | ((with_reducible refine GuardB.split (fun hc => ?_) (fun hc => ?_)) <;> (have hc2 := hc; try simp only [beq_eq_false_iff_ne, beq_iff_eq, ne_eq, bne_iff_ne, bne_eq_false_iff_eq, decide_eq_true_eq, decide_eq_false_iff_not, Bool.not_true, Bool.not_false, Int.not_le, Int.not_lt] at hc2)) | ((with_reducible refine CondK.split (fun hc => ?_) (fun hc => ?_)) <;> (have hc2 := hc; try simp only [beq_eq_false_iff_ne, beq_iff_eq, ne_eq, bne_iff_ne, bne_eq_false_iff_eq, decide_eq_true_eq, decide_eq_false_iff_not, Bool.not_true, Bool.not_false, Int.not_le, Int.not_lt] at hc2)) | ((with_reducible refine PickK.split (fun hc => ?_) (fun hc => ?_)) <;> (have hc2 := hc; try simp only [beq_eq_false_iff_ne, beq_iff_eq, ne_eq, bne_iff_ne, bne_eq_false_iff_eq, decide_eq_true_eq, decide_eq_false_iff_not, Bool.not_true, Bool.not_false, Int.not_le, Int.not_lt] at hc2)) | (with_reducible refine dop_buildSlice ?_) | (with_reducible refine dop_build ?_) | ((with_reducible refine DDraw.told (id := 4) [] [.tmp 4] mo ?_ ?_); kernel_rfl) | ((with_reducible refine GuardD.split (fun hc => ?_) (fun hc => ?_)) <;> (have hc2 := hc; try simp only [beq_eq_false_iff_ne, beq_iff_eq, ne_eq, bne_iff_ne, bne_eq_false_iff_eq, decide_eq_true_eq, decide_eq_false_iff_not, Bool.not_true, Bool.not_false, Int.not_le, Int.not_lt] at hc2)) | (with_reducible refine stp_build ?_) | (with_reducible refine stp_buildSlice ?_) | (with_reducible refine stp_store ?_) | (with_reducible refine stp_ns ?_) | (with_reducible refine NsB.intro (fun h' ho K' hk => by simp -implicitDefEqProofs (maxSteps := 1000000) only [go_sem, seval, *] <;> exact hk) ?_) | (with_reducible refine WrB.intro _ (by simp -implicitDefEqProofs (maxSteps := 1000000) only [go_sem, seval, *]) (fun h' ho K' hk => by simp -implicitDefEqProofs (maxSteps := 1000000) only [go_sem, seval, *]; exact hk) (fun h' ho K' hk => by simp -implicitDefEqProofs (maxSteps := 1000000) only [go_sem, seval, *] at hk; exact hk) (fun h' ho hk => by simp -implicitDefEqProofs (maxSteps := 1000000) only [go_sem, seval, *] at hk <;> with_unfolding_all exact False.elim hk) ?_) | (with_reducible refine WrB.intro _ (by simp -implicitDefEqProofs (maxSteps := 1000000) only [go_sem, seval, *]) (fun h' ho K' hk => by simp -implicitDefEqProofs (maxSteps := 1000000) only [go_sem, seval, *]; exact hk) ?_) | ((with_reducible refine DDraw.auto mo ?_ ?_); kernel_rfl)) <;> simp -implicitDefEqProofs (maxSteps := 1000000) only [go_sem, seval, *]) | (with_reducible refine bi_same ?_))
  rename_i ga hga hna
  refine after_D F hT _ _ n m gs so sn sc gp po pc sh ld th hd ot0 ot1 oh0 oh1 st0 st1 sp0 sp1 yi0 yi1 nd pl ⟨readI_mono (fun a u e => sub_cell (sub_setN2 hna hn) e) hx.out⟩ hc hN hm hp hs ⟨readV_mono (fun a u e => sub_cell (sub_setN2 hna hn) e) hpl.out⟩ ⟨fun gf gF gL h' y1 y3 y4 y5 y6 hq hr => ?_⟩
  have u0 := hr.p0
  have u1 := hr.p1
  have u2 := hr.p2
  have u3 := hr.p3
  clear hr
  have v1 := own_ne u1
  have ug : h'.own g = some (.cells #[.slice none 0 0, .int .i64 0, .slice none 0 0] 74) := u0 g _ (by rw [Hp.own_set, if_pos rfl])
  have vg := own_ne ug
  have dg : gf ≠ g ∧ g ≠ gf := by
    have q : gf ≠ g := by
      intro q
      rw [q, ug] at u1
      cases u1
    exact ⟨q, q.symm⟩
  have dF : gF ≠ g := by
    intro q
    rw [q, ug] at u2
    simp only [Option.some.injEq, Obj.cells.injEq] at u2
    exact absurd u2.2.1 (by decide)
  have dL : gL ≠ g := by
    intro q
    rw [q, ug] at u3
    simp only [Option.some.injEq, Obj.cells.injEq] at u3
    exact absurd u3.2.1 (by decide)
  have od : ∀ {y : Nat} {o : Obj}, y ≠ g → h'.own y = some o → (h'.drop g).own y = some o := fun {y o} hy e => by
    have e1 : (h'.drop g).own y = if y = g then none else h'.own y := rfl
    rw [e1, if_neg hy]
    exact e
  have hfin := Hold.mk (hK.out gF gL (h'.drop g) y3 y5 (kept_none (sub_setN2 hna hn) y4) (kept_none (sub_setN2 hna hn) y6) hq.2.2.2.2.1 (fun y o e => od (own_ne e g hn.2.2).1 (u0 y o (sub_setN2 hna hn y o e))) (od dF u2) (od dL u3))
  replace od := Hold.mk (@od)
  generalize runF ld th hd ot0 ot1 oh0 oh1 st0 st1 sp0 sp1 yi0 yi1 sh n fl0 pl = R at *
  clear u0 u2 u3 hK hx hc hp hs hpl y4 y6
  simp -implicitDefEqProofs (maxSteps := 1000000) only [go_sem, seval, *]
  repeat' (first | (with_reducible refine at_seq (by with_unfolding_all exact rfl) ?_) | ((first | (with_reducible refine at_plain (by with_unfolding_all exact rfl) ?_) | (with_reducible refine at_draw (by with_unfolding_all exact rfl) ?_) | (with_reducible refine at_cond (by with_unfolding_all exact rfl) ?_) | (with_reducible refine at_exit (by with_unfolding_all exact rfl) ?_) | (with_reducible refine at_ret (by with_unfolding_all exact rfl) ?_) | (with_reducible refine at_skip (by with_unfolding_all exact rfl) ?_) | (with_reducible refine at_label (by with_unfolding_all exact rfl) ?_)) <;> try simp -implicitDefEqProofs (maxSteps := 1000000) only [go_sem, seval, *]) | (with_reducible refine at_block (by with_unfolding_all exact rfl) ?_) | (with_reducible refine at_loop (by with_unfolding_all exact rfl) ?_) | ((first | ((with_reducible refine NewK.intro fun g hg hn => ?_) <;> try simp only [own_none_iff] at hn) | ((with_reducible refine GuardB.split (fun hc => ?_) (fun hc => ?_)) <;> (have hc2 := hc; try simp only [beq_eq_false_iff_ne, beq_iff_eq, ne_eq, bne_iff_ne, bne_eq_false_iff_eq, decide_eq_true_eq, decide_eq_false_iff_not, Bool.not_true, Bool.not_false, Int.not_le, Int.not_lt] at hc2)) | ((with_reducible refine CondK.split (fun hc => ?_) (fun hc => ?_)) <;> (have hc2 := hc; try simp only [beq_eq_false_iff_ne, beq_iff_eq, ne_eq, bne_iff_ne, bne_eq_false_iff_eq, decide_eq_true_eq, decide_eq_false_iff_not, Bool.not_true, Bool.not_false, Int.not_le, Int.not_lt] at hc2)) | ((with_reducible refine PickK.split (fun hc => ?_) (fun hc => ?_)) <;> (have hc2 := hc; try simp only [beq_eq_false_iff_ne, beq_iff_eq, ne_eq, bne_iff_ne, bne_eq_false_iff_eq, decide_eq_true_eq, decide_eq_false_iff_not, Bool.not_true, Bool.not_false, Int.not_le, Int.not_lt] at hc2)) | (with_reducible refine dop_buildSlice ?_) | (with_reducible refine dop_build ?_) | ((with_reducible refine DDraw.told (id := 4) [] [.tmp 4] mo ?_ ?_); kernel_rfl) | ((with_reducible refine GuardD.split (fun hc => ?_) (fun hc => ?_)) <;> (have hc2 := hc; try simp only [beq_eq_false_iff_ne, beq_iff_eq, ne_eq, bne_iff_ne, bne_eq_false_iff_eq, decide_eq_true_eq, decide_eq_false_iff_not, Bool.not_true, Bool.not_false, Int.not_le, Int.not_lt] at hc2)) | (with_reducible refine stp_build ?_) | (with_reducible refine stp_buildSlice ?_) | (with_reducible refine stp_store ?_) | (with_reducible refine stp_ns ?_) | (with_reducible refine NsB.intro (fun h' ho K' hk => by simp -implicitDefEqProofs (maxSteps := 1000000) only [go_sem, seval, *] <;> exact hk) ?_) | (with_reducible refine WrB.intro _ (by simp -implicitDefEqProofs (maxSteps := 1000000) only [go_sem, seval, *]) (fun h' ho K' hk => by simp -implicitDefEqProofs (maxSteps := 1000000) only [go_sem, seval, *]; exact hk) (fun h' ho K' hk => by simp -implicitDefEqProofs (maxSteps := 1000000) only [go_sem, seval, *] at hk; exact hk) (fun h' ho hk => by simp -implicitDefEqProofs (maxSteps := 1000000) only [go_sem, seval, *] at hk <;> with_unfolding_all exact False.elim hk) ?_) | (with_reducible refine WrB.intro _ (by simp -implicitDefEqProofs (maxSteps := 1000000) only [go_sem, seval, *]) (fun h' ho K' hk => by simp -implicitDefEqProofs (maxSteps := 1000000) only [go_sem, seval, *]; exact hk) ?_) | ((with_reducible refine DDraw.auto mo ?_ ?_); kernel_rfl)) <;> simp -implicitDefEqProofs (maxSteps := 1000000) only [go_sem, seval, *]) | (with_reducible refine bi_same ?_))
  refine ⟨_, fun y o e => ?_, hfin.out⟩
  have e1 : (h'.drop g).own y = if y = g then none else h'.own y := rfl
  rw [e1] at e
  split at e
  · cases e
  · rename_i hy
    simp -implicitDefEqProofs (maxSteps := 1000000) only [go_sem, seval, hy]
    exact e
/-- The same: two blocks are made. -/
theorem Run_R (F : Fr) (hT : F.top = true) (h : Hp) (K : Value → Hp → Prop) (n m : Nat) (gs so sn sc gp po pc : Nat) (sh : List Int) (ld th hd ot0 ot1 oh0 oh1 st0 st1 sp0 sp1 yi0 yi1 nd : Int) (pl : List (Int × Int))
    (hx : Hold (readI (h.cell? F) gs so sn = some sh)) (hc : Hold (fcheckV n sn sh ld th hd ot0 ot1 oh0 oh1 st0 st1 sp0 sp1 yi0 yi1 nd = 0)) (hN : Hold (3 ≤ n ∧ n ≤ 12 ∧ sn = n / 2)) (hm : Hold (m ≤ 200 ∧ pl.length = m)) (hp : Hold (∀ p ∈ pl, okSt ld th hd ot0 ot1 oh0 oh1 st0 st1 sp0 sp1 yi0 yi1 n p))
    (hs : Hold (∀ j, 0 ≤ shareV sh n j ∧ shareV sh n j ≤ 500)) (hpl : Hold (readV (h.cell? F) gp po (m * 2) = some (pl.flatMap spC)))
    (hK : ∀ p q (_ : Unit), F.w0.heap.size ≤ p → F.w0.heap.size ≤ q → h.own p = none → h.own q = none → p ≠ q →
      K (.tuple #[.agg #[.slice (some ⟨p, 0, none⟩) n n, .int .i64 (runF ld th hd ot0 ot1 oh0 oh1 st0 st1 sp0 sp1 yi0 yi1 sh n fl0 pl).2.2, .slice (some ⟨q, 0, none⟩) n n], .int .i64 0]) ((h.set p (.cells (flS (runF ld th hd ot0 ot1 oh0 oh1 st0 st1 sp0 sp1 yi0 yi1 sh n fl0 pl).1 n).toArray 26)).set q (.cells (flS (runF ld th hd ot0 ot1 oh0 oh1 st0 st1 sp0 sp1 yi0 yi1 sh n fl0 pl).2.1 n).toArray 26))) :
    DCall Try.prog F 28 #[.agg #[.int .i64 n, .int .i64 ld, .int .i64 th, .int .i64 hd, .int .i64 ot0, .int .i64 ot1, .int .i64 oh0, .int .i64 oh1, .int .i64 st0, .int .i64 st1, .int .i64 sp0, .int .i64 sp1, .int .i64 yi0, .int .i64 yi1, .slice (some ⟨gs, so, none⟩) sn sc, .int .i64 nd], .slice (some ⟨gp, po, none⟩) m pc] h K := by
  refine DCall.weak ?_
  refine Run_D F hT h _ n m gs so sn sc gp po pc sh ld th hd ot0 ot1 oh0 oh1 st0 st1 sp0 sp1 yi0 yi1 nd pl hx hc hN hm hp hs hpl ⟨fun gF gL h' y1 y2 n1 n2 hne kk oF oL => ⟨_, fun b o e => ?_, hK gF gL () y1 y2 n1 n2 hne⟩⟩
  rw [Hp.own_set, Hp.own_set] at e
  split at e
  · rename_i hb; subst hb; cases e; exact oL
  · split at e
    · rename_i hb; subst hb; cases e; exact oF
    · exact kk b o e

end Go.Proofs.Ytlblahfndlgfmaa
