/-
  Walks. Conditions: none.
-/
import Derived.Test.YtlbpfmnobapidaaD5
set_option linter.unusedVariables false
set_option linter.unusedSimpArgs false
namespace Go.Proofs.Ytlbpfmnobapidaa
open Go.RowKit Go.SL
set_option maxHeartbeats 1000000
set_option maxRecDepth 1000000
attribute [local go_sem] fl_getD fl_get fl_set lk_def st_def gL_nil gL_zero gL_succ sL_nil_zero sL_nil_succ sL_zero sL_succ Option.getD_none FgK_app onlyL_nil onlyL_none onlyL_some setO_some toB_bool toB_undef yl_def
attribute [local go_sem high] GuardK_yl GuardL_yl
attribute [local go_sem] initL_one initL_cons lastL_one lastL_cons LastK_app fin_round Fr.inr_w0 Fr.inr_ro Fr.inr_M cell_inr LoopO_some YieldK_some RoundQ_normal RoundQ_ret RoundQ_exit EndR_none EndR_some BegK_app BegR_some OutR_none OutR_ret OutR_exit LeftR_some LeftK_app
attribute [local go_sem] i64w
attribute [local go_sem] dwp_eqGuardE dwp_eqGuardN rval_eqGuardE rval_eqGuardN
attribute [local go_sem] add_none recL_state recL_pending
/-- Valid errors of a tool. -/
structure AimOk (s0 s1 c0 c1 : Int) : Prop where
  s : -1000000 ≤ s0 ∧ s0 ≤ s1 ∧ s1 ≤ 1000000
  c : -1000000 ≤ c0 ∧ c0 ≤ c1 ∧ c1 ≤ 1000000
/-- The targets for the pieces of one order. -/
def tgX (s0 s1 c0 c1 : Int) (ws : List (Int × Int)) (os : List Ord) (fr to : Int) (i : Nat) : Int × Int :=
  ((ordAt os i).z0 - (s0 + c0) - (wearN ws os fr to i).1, (ordAt os i).z1 - (s1 + c1) - (wearN ws os fr to i).2 - (wrAt ws (ordAt os i).st).2 * (manyV os fr to i - 1))
/-- The targets, of so many orders; whether there was any piece. -/
def tgN (s0 s1 c0 c1 : Int) (ws : List (Int × Int)) (os : List Ord) (fr to : Int) : Nat → Int × Int × Bool
  | 0 => (0, 0, false)
  | i + 1 => if 0 < manyV os fr to i then
      (if (tgN s0 s1 c0 c1 ws os fr to i).2.2 then (max (tgN s0 s1 c0 c1 ws os fr to i).1 (tgX s0 s1 c0 c1 ws os fr to i).1, min (tgN s0 s1 c0 c1 ws os fr to i).2.1 (tgX s0 s1 c0 c1 ws os fr to i).2, true)
       else ((tgX s0 s1 c0 c1 ws os fr to i).1, (tgX s0 s1 c0 c1 ws os fr to i).2, true))
    else tgN s0 s1 c0 c1 ws os fr to i
set_option maxHeartbeats 8000000 in
theorem targets_ok (ro : Addr → Option Value) (gs : Nat) (s0 s1 c0 c1 : Int) (pw : Option Addr) (nw cw : Nat) (po : Option Addr) (no co : Nat) (pf : Option Addr) (cf : Nat) (dn : Bool) (ws : List (Int × Int)) (os : List Ord) (fr to : Int) (hS : ShopR ro gs s0 s1 c0 c1 pw nw cw po no co pf cf dn ws os) (hN : Hold (OrdsOk nw os ∧ os.length = no)) (hW : Hold (WearsOk nw ws)) (hA : Hold (AimOk s0 s1 c0 c1)) (hB : Hold ((-1000000 ≤ fr ∧ fr ≤ 1000000) ∧ -1000000 ≤ to ∧ to ≤ 1000000)) :
    Cr Try.prog 68 #[.pointer (some ⟨gs, 0, none⟩), .int .i64 fr, .int .i64 to] ro (.agg #[.int .i64 (tgN s0 s1 c0 c1 ws os fr to no).1, .int .i64 (tgN s0 s1 c0 c1 ws os fr to no).2.1]) := by
  refine Cr.ofD fun F hF hT => ?_
  subst hF
  replace hS := Hold.mk hS
  have t1 := hS.out.m1
  have t2 := hS.out.m2
  have t3 := hS.out.m3
  have t4 := hS.out.m4
  have a1 := hA.out.s
  have a2 := hA.out.c
  have x1 : IntKind.i64.wrap (s0 + c0) = s0 + c0 := IntWalk.i64_in _ (by omega)
  have x2 : IntKind.i64.wrap (s1 + c1) = s1 + c1 := IntWalk.i64_in _ (by omega)
  clear a1 a2
  (refine DCall.inlP (l := _) Try.func68 Try.ntmps68 rfl rfl (by simp only [seval, List.length_cons, List.length_nil]) (by simp only [seval, List.length_cons, List.length_nil]) ?_; simp only [Try.results68, List.map_cons, List.map_nil])
  repeat' (first | (with_reducible refine at_seq (by with_unfolding_all exact rfl) ?_) | ((with_reducible first | refine at_plain (by with_unfolding_all exact rfl) ?_ | refine at_draw (by with_unfolding_all exact rfl) ?_ | refine at_cond (by with_unfolding_all exact rfl) ?_ | refine at_exit (by with_unfolding_all exact rfl) ?_ | refine at_ret (by with_unfolding_all exact rfl) ?_ | refine at_skip (by with_unfolding_all exact rfl) ?_ | refine at_label (by with_unfolding_all exact rfl) ?_) <;> try simp -implicitDefEqProofs (maxSteps := 1000000) only [go_sem, seval, *]) | (with_reducible first | refine at_block (by with_unfolding_all exact rfl) ?_ | refine at_loop (by with_unfolding_all exact rfl) ?_) | ((first | ((with_reducible refine NewK.intro fun g hg hn => ?_) <;> try simp only [own_none_iff] at hn) | ((with_reducible first | refine GuardB.split (fun hc => ?_) (fun hc => ?_) | refine CondK.split (fun hc => ?_) (fun hc => ?_) | refine PickK.split (fun hc => ?_) (fun hc => ?_) | refine GuardD.split (fun hc => ?_) (fun hc => ?_)) <;> (have hc2 := hc; try simp only [beq_eq_false_iff_ne, beq_iff_eq, ne_eq, bne_iff_ne, bne_eq_false_iff_eq, decide_eq_true_eq, decide_eq_false_iff_not, Bool.not_true, Bool.not_false, Int.not_le, Int.not_lt] at hc2)) | (with_reducible first | refine dop_buildSlice ?_ | refine dop_build ?_) | ((with_reducible refine Cr.call (f := 80) (plus_ok _ _ _ _ _ (by simp -implicitDefEqProofs (maxSteps := 1000000) only [go_sem, seval, *]) (by simp -implicitDefEqProofs (maxSteps := 1000000) only [go_sem, seval, *])) ?_)) | (with_reducible refine CallV.of (f := 80) (plus_ok _ _ _ _ _ (by simp -implicitDefEqProofs (maxSteps := 1000000) only [go_sem, seval, *]) (by simp -implicitDefEqProofs (maxSteps := 1000000) only [go_sem, seval, *])) ni80 ?_) | ((with_reducible refine DDraw.told (id := 1) [] [] mo ?_ ?_); kernel_rfl) | ((with_reducible refine DDraw.told (id := 11) [0] [.tmp 9] mo ?_ ?_); kernel_rfl) | ((with_reducible refine DDraw.told (id := 6) [] [] mo ?_ ?_); kernel_rfl) | (with_reducible first | refine stp_build ?_ | refine stp_buildSlice ?_ | refine stp_store ?_ | refine stp_ns ?_) | (with_reducible refine NsB.intro (fun h' ho K' hk => by simp -implicitDefEqProofs (maxSteps := 1000000) only [go_sem, seval, *] <;> exact hk) ?_) | (with_reducible refine WrB.intro _ (by simp -implicitDefEqProofs (maxSteps := 1000000) only [go_sem, seval, *]) (fun h' ho K' hk => by simp -implicitDefEqProofs (maxSteps := 1000000) only [go_sem, seval, *]; exact hk) (fun h' ho K' hk => by simp -implicitDefEqProofs (maxSteps := 1000000) only [go_sem, seval, *] at hk; exact hk) (fun h' ho hk => by simp -implicitDefEqProofs (maxSteps := 1000000) only [go_sem, seval, *] at hk <;> with_unfolding_all exact False.elim hk) ?_) | (with_reducible refine WrB.intro _ (by simp -implicitDefEqProofs (maxSteps := 1000000) only [go_sem, seval, *]) (fun h' ho K' hk => by simp -implicitDefEqProofs (maxSteps := 1000000) only [go_sem, seval, *]; exact hk) ?_) | ((with_reducible refine DDraw.auto mo ?_ ?_); kernel_rfl)) <;> simp -implicitDefEqProofs (maxSteps := 1000000) only [go_sem, seval, *]) | (with_reducible refine bi_same ?_))
  (refine DCall.inlP (l := _) Try.func93 Try.ntmps93 rfl rfl (by simp only [seval, List.length_cons, List.length_nil]) (by simp only [seval, List.length_cons, List.length_nil]) ?_; simp only [Try.results93, List.map_cons, List.map_nil])
  repeat' (first | (with_reducible refine at_seq (by with_unfolding_all exact rfl) ?_) | ((with_reducible first | refine at_plain (by with_unfolding_all exact rfl) ?_ | refine at_draw (by with_unfolding_all exact rfl) ?_ | refine at_cond (by with_unfolding_all exact rfl) ?_ | refine at_exit (by with_unfolding_all exact rfl) ?_ | refine at_ret (by with_unfolding_all exact rfl) ?_ | refine at_skip (by with_unfolding_all exact rfl) ?_ | refine at_label (by with_unfolding_all exact rfl) ?_) <;> try simp -implicitDefEqProofs (maxSteps := 1000000) only [go_sem, seval, *]) | (with_reducible first | refine at_block (by with_unfolding_all exact rfl) ?_ | refine at_loop (by with_unfolding_all exact rfl) ?_) | ((first | ((with_reducible refine NewK.intro fun g hg hn => ?_) <;> try simp only [own_none_iff] at hn) | ((with_reducible first | refine GuardB.split (fun hc => ?_) (fun hc => ?_) | refine CondK.split (fun hc => ?_) (fun hc => ?_) | refine PickK.split (fun hc => ?_) (fun hc => ?_) | refine GuardD.split (fun hc => ?_) (fun hc => ?_)) <;> (have hc2 := hc; try simp only [beq_eq_false_iff_ne, beq_iff_eq, ne_eq, bne_iff_ne, bne_eq_false_iff_eq, decide_eq_true_eq, decide_eq_false_iff_not, Bool.not_true, Bool.not_false, Int.not_le, Int.not_lt] at hc2)) | (with_reducible first | refine dop_buildSlice ?_ | refine dop_build ?_) | (with_reducible first | refine stp_build ?_ | refine stp_buildSlice ?_ | refine stp_store ?_ | refine stp_ns ?_) | (with_reducible refine NsB.intro (fun h' ho K' hk => by simp -implicitDefEqProofs (maxSteps := 1000000) only [go_sem, seval, *] <;> exact hk) ?_) | (with_reducible refine WrB.intro _ (by simp -implicitDefEqProofs (maxSteps := 1000000) only [go_sem, seval, *]) (fun h' ho K' hk => by simp -implicitDefEqProofs (maxSteps := 1000000) only [go_sem, seval, *]; exact hk) (fun h' ho K' hk => by simp -implicitDefEqProofs (maxSteps := 1000000) only [go_sem, seval, *] at hk; exact hk) (fun h' ho hk => by simp -implicitDefEqProofs (maxSteps := 1000000) only [go_sem, seval, *] at hk <;> with_unfolding_all exact False.elim hk) ?_) | (with_reducible refine WrB.intro _ (by simp -implicitDefEqProofs (maxSteps := 1000000) only [go_sem, seval, *]) (fun h' ho K' hk => by simp -implicitDefEqProofs (maxSteps := 1000000) only [go_sem, seval, *]; exact hk) ?_) | ((with_reducible refine DDraw.auto mo ?_ ?_); kernel_rfl)) <;> simp -implicitDefEqProofs (maxSteps := 1000000) only [go_sem, seval, *]) | (with_reducible refine bi_same ?_))
  rename_i g3 hg3 hn3 g6 hg6 hn6 g7 hg7 hn7 g8 hg8 hn8 g9 hg9 hn9 g10 hg10 hn10 b1 hb1 hnb1 b3 hb3 hnb3
  generalize hgg : g = b2 at *
  clear hgg
  refine at_rangeFunc (by with_unfolding_all exact rfl) ?_
  refine DWp.rangeFunc (gf := 105) (lb := #[.pointer (some ⟨b1, 0, none⟩), .pointer (some ⟨b2, 0, none⟩), .pointer (some ⟨b3, 0, none⟩)]) hT (by simp -implicitDefEqProofs (maxSteps := 1000000) only [go_sem, seval, *]) ent_parts (fun D hD1 hD2 L hL1 hL2 fn => ?_)
  simp only [own_none_iff] at hD2 hL2
  generalize hrec : recL fn _ _ _ _ D = rec
  have es : rec.state = .ready := by rw [← hrec]; rfl
  have en : rec.pending = none := by rw [← hrec]; rfl
  have ea : rec.assign = _ := congrArg Loop.assign hrec.symm
  have eb : rec.body = _ := congrArg Loop.body hrec.symm
  have et : rec.tmps = _ := congrArg Loop.tmps hrec.symm
  have ep : rec.params = _ := congrArg Loop.params hrec.symm
  simp only [recL] at ea eb et ep
  replace ea := Hold.mk ea
  replace eb := Hold.mk eb
  replace et := Hold.mk et
  replace ep := Hold.mk ep
  have er : ({ state := .ready, pending := none, fn := rec.fn, tmps := rec.tmps, params := rec.params, assign := rec.assign, body := rec.body, defers := rec.defers } : Loop) = rec := by rw [← hrec]; rfl
  obtain ⟨S, hSd⟩ : ∃ S, S = (((((Hp.none_.set g3 (.cells #[.pointer (some ⟨gs, 0, none⟩)] 98)).set g6 (.cells #[.int .i64 0, .int .i64 0] 23)).set g7 (.cells #[.int .i64 (s0 + c0), .int .i64 (s1 + c1)] 23)).set b1 (.cells #[.pointer (some ⟨gs, 0, none⟩)] 98)).set b3 (.cells #[.int .i64 fr] 3)).set b2 (.cells #[.int .i64 to] 3) := ⟨_, rfl⟩
  have sL : S.own L = none := by rw [hSd]; simp -implicitDefEqProofs (maxSteps := 1000000) only [go_sem, seval, *]
  have sD : S.own D = none := by rw [hSd]; simp -implicitDefEqProofs (maxSteps := 1000000) only [go_sem, seval, *]
  have s8 : S.own g8 = none := by rw [hSd]; simp -implicitDefEqProofs (maxSteps := 1000000) only [go_sem, seval, *]
  have s9 : S.own g9 = none := by rw [hSd]; simp -implicitDefEqProofs (maxSteps := 1000000) only [go_sem, seval, *]
  have s10 : S.own g10 = none := by rw [hSd]; simp -implicitDefEqProofs (maxSteps := 1000000) only [go_sem, seval, *]
  have u6 : S.own g6 = some (.cells #[.int .i64 0, .int .i64 0] 23) := by rw [hSd]; simp -implicitDefEqProofs (maxSteps := 1000000) only [go_sem, seval, *]
  have u7 : S.own g7 = some (.cells #[.int .i64 (s0 + c0), .int .i64 (s1 + c1)] 23) := by rw [hSd]; simp -implicitDefEqProofs (maxSteps := 1000000) only [go_sem, seval, *]
  have u3 : S.own g3 = some (.cells #[.pointer (some ⟨gs, 0, none⟩)] 98) := by rw [hSd]; simp -implicitDefEqProofs (maxSteps := 1000000) only [go_sem, seval, *]
  obtain ⟨I, hId⟩ : ∃ I : Nat → Hp → Prop, I = fun i h' => (∀ g o, S.own g = some o → h'.own g = some o) ∧ h'.own L = some (.loop rec) ∧ h'.own D = some (.deferred (some [])) ∧ h'.own g8 = some (.cells #[.int .i64 (tgN s0 s1 c0 c1 ws os fr to i).1, .int .i64 (tgN s0 s1 c0 c1 ws os fr to i).2.1] 23) ∧ h'.own g9 = some (.cells #[.int .i64 (wearN ws os fr to i).1, .int .i64 (wearN ws os fr to i).2] 23) ∧ h'.own g10 = some (.cells #[.bool (tgN s0 s1 c0 c1 ws os fr to i).2.2] 4) := ⟨_, rfl⟩
  show DCall Try.prog F 105 #[.func (.yield L) #[] #[], .pointer (some ⟨b1, 0, none⟩), .pointer (some ⟨b2, 0, none⟩), .pointer (some ⟨b3, 0, none⟩)] _ _
  refine parts_D F _ _ gs s0 s1 c0 c1 pw nw cw po no co pf cf dn ws os fr to b1 b2 b3 L S I hN hB hS (by rw [hSd]; simp -implicitDefEqProofs (maxSteps := 1000000) only [go_sem, seval, *]) (by rw [hSd]; simp -implicitDefEqProofs (maxSteps := 1000000) only [go_sem, seval, *]) (by rw [hSd]; simp -implicitDefEqProofs (maxSteps := 1000000) only [go_sem, seval, *]) hb1 hg hb3 ⟨?_⟩ ⟨?_⟩ ⟨?_⟩ ?_ ⟨?_⟩
  · intro j h' hij
    rw [hId] at hij
    exact ⟨hij.1, rec, hij.2.1, by rw [ep.out]; rfl⟩
  · intro i h' o K' hxi hm hij hk r hr
    rw [hId] at hij
    obtain ⟨m0, m1, m2, m3, m4, m5⟩ := hij
    obtain rfl : rec = r := by rw [m1] at hr; cases hr; rfl
    have hlt : i < os.length := (List.getElem?_eq_some_iff.1 hxi).1
    have ho : o ∈ os := List.mem_of_getElem? hxi
    have pb := hN.out.1.pc _ ho
    have sb := hN.out.1.st _ ho
    have wb := wrAt_bd hW.out sb
    have wg := wrAt_get hW.out sb
    have mp := many_pc hN.out.1 hxi (fr := fr) (to := to)
    have nb := wearN_bd hW.out hN.out.1 fr to i (by omega)
    have fb := fstV_bd hN.out.1 i (by omega)
    have l40 := hN.out.1.len.2
    have stp : wearN ws os fr to (i + 1) = ((wearN ws os fr to i).1 + (wrAt ws o.st).1 * manyV os fr to i, (wearN ws os fr to i).2 + (wrAt ws o.st).2 * manyV os fr to i) := by rw [wearN, if_pos hm, ordAt_eq hxi]
    have stx : tgX s0 s1 c0 c1 ws os fr to i = (o.z0 - (s0 + c0) - (wearN ws os fr to i).1, o.z1 - (s1 + c1) - (wearN ws os fr to i).2 - (wrAt ws o.st).2 * (manyV os fr to i - 1)) := by unfold tgX; rw [ordAt_eq hxi]
    have stg : tgN s0 s1 c0 c1 ws os fr to (i + 1) = (if (tgN s0 s1 c0 c1 ws os fr to i).2.2 then (max (tgN s0 s1 c0 c1 ws os fr to i).1 (tgX s0 s1 c0 c1 ws os fr to i).1, min (tgN s0 s1 c0 c1 ws os fr to i).2.1 (tgX s0 s1 c0 c1 ws os fr to i).2, true)
       else ((tgX s0 s1 c0 c1 ws os fr to i).1, (tgX s0 s1 c0 c1 ws os fr to i).2, true)) := by rw [tgN, if_pos hm]
    rw [stx] at stg
    have zb := hN.out.1.z _ ho
    have ab1 := hA.out.s
    have ab2 := hA.out.c
    have hst : o.st.toNat < nw := by omega
    obtain ⟨b, off, ew, hro⟩ := hS.out.rw.at spC_len hst wg
    have r0 := hro 0 _ rfl
    have r1 := hro 1 _ rfl
    rw [Nat.add_zero] at r0
    have t5 := hS.out.m5
    rw [ew] at t5
    rw [hId] at hk
    dsimp only at hk
    rw [stp, stg] at hk
    replace hk := Hold.mk hk
    generalize tgN s0 s1 c0 c1 ws os fr to i = tg at *
    generalize wearN ws os fr to i = w at *
    generalize wrAt ws o.st = v at *
    generalize manyV os fr to i = m at *
    have m1' := mul_bd (a := v.1) (b := m) (A := 100000) (B := 10000) wb.1 (by omega) (by omega) (by omega)
    have m2' := mul_bd (a := v.2) (b := m) (A := 100000) (B := 10000) (by omega) (by omega) (by omega) (by omega)
    have w1 : IntKind.i64.wrap (v.1 * m) = v.1 * m := IntWalk.i64_in _ (by omega)
    have w2 : IntKind.i64.wrap (v.2 * m) = v.2 * m := IntWalk.i64_in _ (by omega)
    have w3 : IntKind.i64.wrap (w.1 + v.1 * m) = w.1 + v.1 * m := IntWalk.i64_in _ (by omega)
    have w4 : IntKind.i64.wrap (w.2 + v.2 * m) = w.2 + v.2 * m := IntWalk.i64_in _ (by omega)
    have m3' := mul_bd (a := v.2) (b := m - 1) (A := 100000) (B := 10000) (by omega) (by omega) (by omega) (by omega)
    have w5 : IntKind.i64.wrap (o.z0 - (s0 + c0)) = o.z0 - (s0 + c0) := IntWalk.i64_in _ (by omega)
    have w6 : IntKind.i64.wrap (o.z0 - (s0 + c0) - w.1) = o.z0 - (s0 + c0) - w.1 := IntWalk.i64_in _ (by omega)
    have w7 : IntKind.i64.wrap (o.z1 - (s1 + c1)) = o.z1 - (s1 + c1) := IntWalk.i64_in _ (by omega)
    have w8 : IntKind.i64.wrap (o.z1 - (s1 + c1) - w.2) = o.z1 - (s1 + c1) - w.2 := IntWalk.i64_in _ (by omega)
    have w9 : IntKind.i64.wrap (m - 1) = m - 1 := IntWalk.i64_in _ (by omega)
    have w10 : IntKind.i64.wrap (v.2 * (m - 1)) = v.2 * (m - 1) := IntWalk.i64_in _ (by omega)
    have w11 : IntKind.i64.wrap (o.z1 - (s1 + c1) - w.2 - v.2 * (m - 1)) = o.z1 - (s1 + c1) - w.2 - v.2 * (m - 1) := IntWalk.i64_in _ (by omega)
    have d1 : (o.st < (nw : Int)) = True := by simp only [eq_iff_iff, iff_true]; omega
    have d0 : (0 ≤ o.st) = True := by simp only [eq_iff_iff, iff_true]; omega
    have v1 := own_ne m1
    have v2 := own_ne m2
    have v3 := own_ne m3
    have u3' := m0 _ _ u3
    have v4 := own_ne u3'
    have u7' := m0 _ _ u7
    have v5 := own_ne u7'
    have v6 := own_ne m4
    have v7 := own_ne m5
    have n_g3_L : g3 ≠ L ∧ L ≠ g3 := ⟨(by rintro rfl; rw [u3] at sL; cases sL), (by rintro rfl; rw [u3] at sL; cases sL)⟩
    have n_g3_D : g3 ≠ D ∧ D ≠ g3 := ⟨(by rintro rfl; rw [u3] at sD; cases sD), (by rintro rfl; rw [u3] at sD; cases sD)⟩
    have n_g3_g8 : g3 ≠ g8 ∧ g8 ≠ g3 := ⟨(by rintro rfl; rw [u3] at s8; cases s8), (by rintro rfl; rw [u3] at s8; cases s8)⟩
    have n_g3_g9 : g3 ≠ g9 ∧ g9 ≠ g3 := ⟨(by rintro rfl; rw [u3] at s9; cases s9), (by rintro rfl; rw [u3] at s9; cases s9)⟩
    have n_g3_g10 : g3 ≠ g10 ∧ g10 ≠ g3 := ⟨(by rintro rfl; rw [u3] at s10; cases s10), (by rintro rfl; rw [u3] at s10; cases s10)⟩
    have n_g6_L : g6 ≠ L ∧ L ≠ g6 := ⟨(by rintro rfl; rw [u6] at sL; cases sL), (by rintro rfl; rw [u6] at sL; cases sL)⟩
    have n_g6_D : g6 ≠ D ∧ D ≠ g6 := ⟨(by rintro rfl; rw [u6] at sD; cases sD), (by rintro rfl; rw [u6] at sD; cases sD)⟩
    have n_g6_g8 : g6 ≠ g8 ∧ g8 ≠ g6 := ⟨(by rintro rfl; rw [u6] at s8; cases s8), (by rintro rfl; rw [u6] at s8; cases s8)⟩
    have n_g6_g9 : g6 ≠ g9 ∧ g9 ≠ g6 := ⟨(by rintro rfl; rw [u6] at s9; cases s9), (by rintro rfl; rw [u6] at s9; cases s9)⟩
    have n_g6_g10 : g6 ≠ g10 ∧ g10 ≠ g6 := ⟨(by rintro rfl; rw [u6] at s10; cases s10), (by rintro rfl; rw [u6] at s10; cases s10)⟩
    have n_g7_L : g7 ≠ L ∧ L ≠ g7 := ⟨(by rintro rfl; rw [u7] at sL; cases sL), (by rintro rfl; rw [u7] at sL; cases sL)⟩
    have n_g7_D : g7 ≠ D ∧ D ≠ g7 := ⟨(by rintro rfl; rw [u7] at sD; cases sD), (by rintro rfl; rw [u7] at sD; cases sD)⟩
    have n_g7_g8 : g7 ≠ g8 ∧ g8 ≠ g7 := ⟨(by rintro rfl; rw [u7] at s8; cases s8), (by rintro rfl; rw [u7] at s8; cases s8)⟩
    have n_g7_g9 : g7 ≠ g9 ∧ g9 ≠ g7 := ⟨(by rintro rfl; rw [u7] at s9; cases s9), (by rintro rfl; rw [u7] at s9; cases s9)⟩
    have n_g7_g10 : g7 ≠ g10 ∧ g10 ≠ g7 := ⟨(by rintro rfl; rw [u7] at s10; cases s10), (by rintro rfl; rw [u7] at s10; cases s10)⟩
    have n_g6_g3 : g6 ≠ g3 ∧ g3 ≠ g6 := ⟨by simp only [hn6, not_false_eq_true, ne_eq], by simp only [hn6, not_false_eq_true, ne_eq]⟩
    have n_g7_g3 : g7 ≠ g3 ∧ g3 ≠ g7 := ⟨by simp only [hn7, not_false_eq_true, ne_eq], by simp only [hn7, not_false_eq_true, ne_eq]⟩
    have n_g7_g6 : g7 ≠ g6 ∧ g6 ≠ g7 := ⟨by simp only [hn7, not_false_eq_true, ne_eq], by simp only [hn7, not_false_eq_true, ne_eq]⟩
    have n_g9_g8 : g9 ≠ g8 ∧ g8 ≠ g9 := ⟨by simp only [hn9, not_false_eq_true, ne_eq], by simp only [hn9, not_false_eq_true, ne_eq]⟩
    have n_g10_g8 : g10 ≠ g8 ∧ g8 ≠ g10 := ⟨by simp only [hn10, not_false_eq_true, ne_eq], by simp only [hn10, not_false_eq_true, ne_eq]⟩
    have n_g10_g9 : g10 ≠ g9 ∧ g9 ≠ g10 := ⟨by simp only [hn10, not_false_eq_true, ne_eq], by simp only [hn10, not_false_eq_true, ne_eq]⟩
    have n_g8_L : g8 ≠ L ∧ L ≠ g8 := ⟨by simp only [hL2, not_false_eq_true, ne_eq], by simp only [hL2, not_false_eq_true, ne_eq]⟩
    have n_g8_D : g8 ≠ D ∧ D ≠ g8 := ⟨by simp only [hD2, not_false_eq_true, ne_eq], by simp only [hD2, not_false_eq_true, ne_eq]⟩
    have n_g9_L : g9 ≠ L ∧ L ≠ g9 := ⟨by simp only [hL2, not_false_eq_true, ne_eq], by simp only [hL2, not_false_eq_true, ne_eq]⟩
    have n_g9_D : g9 ≠ D ∧ D ≠ g9 := ⟨by simp only [hD2, not_false_eq_true, ne_eq], by simp only [hD2, not_false_eq_true, ne_eq]⟩
    have n_g10_L : g10 ≠ L ∧ L ≠ g10 := ⟨by simp only [hL2, not_false_eq_true, ne_eq], by simp only [hL2, not_false_eq_true, ne_eq]⟩
    have n_g10_D : g10 ≠ D ∧ D ≠ g10 := ⟨by simp only [hD2, not_false_eq_true, ne_eq], by simp only [hD2, not_false_eq_true, ne_eq]⟩
    have n_D_L : D ≠ L ∧ L ≠ D := ⟨by simp only [hL2, not_false_eq_true, ne_eq], by simp only [hL2, not_false_eq_true, ne_eq]⟩
    clear pb sb wb wg mp nb fb l40 stp stg stx zb ab1 ab2 hst ew hro hxi ho m1' m2' m3' hr hId hSd hL2 hD2 hn3 hn6 hn7 hn8 hn9 hn10 hnb1 hnb3 hn hb1 hb3 hg hD1 hL1
    refine DRound.intro ?_
    simp only [ea.out, eb.out, et.out, ep.out, fold2]
    clear hrec
    cases hb : tg.2.2 with
    | true =>
      replace hk := hk.out
      rw [hb] at hk
      rw [if_pos rfl] at hk
      replace hk := Hold.mk hk
      rw [hb] at m5
      simp -implicitDefEqProofs (maxSteps := 1000000) only [go_sem, seval, *]
      repeat' (first | (with_reducible refine at_seq (by with_unfolding_all exact rfl) ?_) | ((with_reducible first | refine at_plain (by with_unfolding_all exact rfl) ?_ | refine at_draw (by with_unfolding_all exact rfl) ?_ | refine at_cond (by with_unfolding_all exact rfl) ?_ | refine at_exit (by with_unfolding_all exact rfl) ?_ | refine at_ret (by with_unfolding_all exact rfl) ?_ | refine at_skip (by with_unfolding_all exact rfl) ?_ | refine at_label (by with_unfolding_all exact rfl) ?_) <;> try simp -implicitDefEqProofs (maxSteps := 1000000) only [go_sem, seval, *]) | (with_reducible first | refine at_block (by with_unfolding_all exact rfl) ?_ | refine at_loop (by with_unfolding_all exact rfl) ?_) | ((first | ((with_reducible refine DDraw.told (id := 6) [] [] mo ?_ ?_); kernel_rfl) | ((with_reducible refine DDraw.told (id := 11) [0] [.tmp 9] mo ?_ ?_); kernel_rfl) | ((with_reducible refine NewK.intro_inr fun g hg hn => ?_); try simp only [own_none_iff] at hn) | ((with_reducible refine NewK.intro fun g hg hn => ?_) <;> try simp only [own_none_iff] at hn) | ((with_reducible first | refine GuardB.split (fun hc => ?_) (fun hc => ?_) | refine CondK.split (fun hc => ?_) (fun hc => ?_) | refine PickK.split (fun hc => ?_) (fun hc => ?_) | refine GuardD.split (fun hc => ?_) (fun hc => ?_)) <;> (have hc2 := hc; try simp only [beq_eq_false_iff_ne, beq_iff_eq, ne_eq, bne_iff_ne, bne_eq_false_iff_eq, decide_eq_true_eq, decide_eq_false_iff_not, Bool.not_true, Bool.not_false, Int.not_le, Int.not_lt] at hc2)) | (with_reducible first | refine dop_buildSlice ?_ | refine dop_build ?_) | ((with_reducible refine Cr.call (f := 94) (times_ok _ _ _ _ (by simp -implicitDefEqProofs (maxSteps := 1000000) only [go_sem, seval, *]) (by simp -implicitDefEqProofs (maxSteps := 1000000) only [go_sem, seval, *])) ?_)) | (with_reducible refine CallV.of (f := 94) (times_ok _ _ _ _ (by simp -implicitDefEqProofs (maxSteps := 1000000) only [go_sem, seval, *]) (by simp -implicitDefEqProofs (maxSteps := 1000000) only [go_sem, seval, *])) ni94 ?_) | ((with_reducible refine Cr.call (f := 80) (plus_ok _ _ _ _ _ (by simp -implicitDefEqProofs (maxSteps := 1000000) only [go_sem, seval, *]) (by simp -implicitDefEqProofs (maxSteps := 1000000) only [go_sem, seval, *])) ?_)) | (with_reducible refine CallV.of (f := 80) (plus_ok _ _ _ _ _ (by simp -implicitDefEqProofs (maxSteps := 1000000) only [go_sem, seval, *]) (by simp -implicitDefEqProofs (maxSteps := 1000000) only [go_sem, seval, *])) ni80 ?_) | (with_reducible first | refine stp_build ?_ | refine stp_buildSlice ?_ | refine stp_store ?_ | refine stp_ns ?_) | (with_reducible refine NsB.intro (fun h' ho K' hk => by simp -implicitDefEqProofs (maxSteps := 1000000) only [go_sem, seval, *] <;> exact hk) ?_) | (with_reducible refine WrB.intro _ (by simp -implicitDefEqProofs (maxSteps := 1000000) only [go_sem, seval, *]) (fun h' ho K' hk => by simp -implicitDefEqProofs (maxSteps := 1000000) only [go_sem, seval, *]; exact hk) (fun h' ho K' hk => by simp -implicitDefEqProofs (maxSteps := 1000000) only [go_sem, seval, *] at hk; exact hk) (fun h' ho hk => by simp -implicitDefEqProofs (maxSteps := 1000000) only [go_sem, seval, *] at hk <;> with_unfolding_all exact False.elim hk) ?_) | (with_reducible refine WrB.intro _ (by simp -implicitDefEqProofs (maxSteps := 1000000) only [go_sem, seval, *]) (fun h' ho K' hk => by simp -implicitDefEqProofs (maxSteps := 1000000) only [go_sem, seval, *]; exact hk) ?_) | ((with_reducible refine DDraw.auto mo ?_ ?_); kernel_rfl)) <;> simp -implicitDefEqProofs (maxSteps := 1000000) only [go_sem, seval, *]) | (with_reducible refine bi_same ?_))
      refine hk.out _ ⟨fun y ob e => ?_, by simp -implicitDefEqProofs (maxSteps := 1000000) only [go_sem, seval, *], by simp -implicitDefEqProofs (maxSteps := 1000000) only [go_sem, seval, *], by simp -implicitDefEqProofs (maxSteps := 1000000) only [go_sem, seval, *], by simp -implicitDefEqProofs (maxSteps := 1000000) only [go_sem, seval, *], by simp -implicitDefEqProofs (maxSteps := 1000000) only [go_sem, seval, *]⟩
      have a1 : y ≠ L := by rintro rfl; rw [sL] at e; cases e
      have a2 : y ≠ g8 := by rintro rfl; rw [s8] at e; cases e
      have a3 : y ≠ g9 := by rintro rfl; rw [s9] at e; cases e
      have a6 : y ≠ g10 := by rintro rfl; rw [s10] at e; cases e
      have a4 := own_ne (m0 y ob e)
      have a5 := m0 y ob e
      simp -implicitDefEqProofs (maxSteps := 1000000) only [go_sem, seval, *]
    | false =>
      replace hk := hk.out
      rw [hb] at hk
      rw [if_neg Bool.false_ne_true] at hk
      replace hk := Hold.mk hk
      rw [hb] at m5
      simp -implicitDefEqProofs (maxSteps := 1000000) only [go_sem, seval, *]
      repeat' (first | (with_reducible refine at_seq (by with_unfolding_all exact rfl) ?_) | ((with_reducible first | refine at_plain (by with_unfolding_all exact rfl) ?_ | refine at_draw (by with_unfolding_all exact rfl) ?_ | refine at_cond (by with_unfolding_all exact rfl) ?_ | refine at_exit (by with_unfolding_all exact rfl) ?_ | refine at_ret (by with_unfolding_all exact rfl) ?_ | refine at_skip (by with_unfolding_all exact rfl) ?_ | refine at_label (by with_unfolding_all exact rfl) ?_) <;> try simp -implicitDefEqProofs (maxSteps := 1000000) only [go_sem, seval, *]) | (with_reducible first | refine at_block (by with_unfolding_all exact rfl) ?_ | refine at_loop (by with_unfolding_all exact rfl) ?_) | ((first | ((with_reducible refine DDraw.told (id := 6) [] [] mo ?_ ?_); kernel_rfl) | ((with_reducible refine DDraw.told (id := 11) [0] [.tmp 9] mo ?_ ?_); kernel_rfl) | ((with_reducible refine NewK.intro_inr fun g hg hn => ?_); try simp only [own_none_iff] at hn) | ((with_reducible refine NewK.intro fun g hg hn => ?_) <;> try simp only [own_none_iff] at hn) | ((with_reducible first | refine GuardB.split (fun hc => ?_) (fun hc => ?_) | refine CondK.split (fun hc => ?_) (fun hc => ?_) | refine PickK.split (fun hc => ?_) (fun hc => ?_) | refine GuardD.split (fun hc => ?_) (fun hc => ?_)) <;> (have hc2 := hc; try simp only [beq_eq_false_iff_ne, beq_iff_eq, ne_eq, bne_iff_ne, bne_eq_false_iff_eq, decide_eq_true_eq, decide_eq_false_iff_not, Bool.not_true, Bool.not_false, Int.not_le, Int.not_lt] at hc2)) | (with_reducible first | refine dop_buildSlice ?_ | refine dop_build ?_) | ((with_reducible refine Cr.call (f := 94) (times_ok _ _ _ _ (by simp -implicitDefEqProofs (maxSteps := 1000000) only [go_sem, seval, *]) (by simp -implicitDefEqProofs (maxSteps := 1000000) only [go_sem, seval, *])) ?_)) | (with_reducible refine CallV.of (f := 94) (times_ok _ _ _ _ (by simp -implicitDefEqProofs (maxSteps := 1000000) only [go_sem, seval, *]) (by simp -implicitDefEqProofs (maxSteps := 1000000) only [go_sem, seval, *])) ni94 ?_) | ((with_reducible refine Cr.call (f := 80) (plus_ok _ _ _ _ _ (by simp -implicitDefEqProofs (maxSteps := 1000000) only [go_sem, seval, *]) (by simp -implicitDefEqProofs (maxSteps := 1000000) only [go_sem, seval, *])) ?_)) | (with_reducible refine CallV.of (f := 80) (plus_ok _ _ _ _ _ (by simp -implicitDefEqProofs (maxSteps := 1000000) only [go_sem, seval, *]) (by simp -implicitDefEqProofs (maxSteps := 1000000) only [go_sem, seval, *])) ni80 ?_) | (with_reducible first | refine stp_build ?_ | refine stp_buildSlice ?_ | refine stp_store ?_ | refine stp_ns ?_) | (with_reducible refine NsB.intro (fun h' ho K' hk => by simp -implicitDefEqProofs (maxSteps := 1000000) only [go_sem, seval, *] <;> exact hk) ?_) | (with_reducible refine WrB.intro _ (by simp -implicitDefEqProofs (maxSteps := 1000000) only [go_sem, seval, *]) (fun h' ho K' hk => by simp -implicitDefEqProofs (maxSteps := 1000000) only [go_sem, seval, *]; exact hk) (fun h' ho K' hk => by simp -implicitDefEqProofs (maxSteps := 1000000) only [go_sem, seval, *] at hk; exact hk) (fun h' ho hk => by simp -implicitDefEqProofs (maxSteps := 1000000) only [go_sem, seval, *] at hk <;> with_unfolding_all exact False.elim hk) ?_) | (with_reducible refine WrB.intro _ (by simp -implicitDefEqProofs (maxSteps := 1000000) only [go_sem, seval, *]) (fun h' ho K' hk => by simp -implicitDefEqProofs (maxSteps := 1000000) only [go_sem, seval, *]; exact hk) ?_) | ((with_reducible refine DDraw.auto mo ?_ ?_); kernel_rfl)) <;> simp -implicitDefEqProofs (maxSteps := 1000000) only [go_sem, seval, *]) | (with_reducible refine bi_same ?_))
      refine hk.out _ ⟨fun y ob e => ?_, by simp -implicitDefEqProofs (maxSteps := 1000000) only [go_sem, seval, *], by simp -implicitDefEqProofs (maxSteps := 1000000) only [go_sem, seval, *], (by simp -implicitDefEqProofs (maxSteps := 1000000) only [go_sem, seval, *]; rw [Int.max_self, Int.min_self]), by simp -implicitDefEqProofs (maxSteps := 1000000) only [go_sem, seval, *], by simp -implicitDefEqProofs (maxSteps := 1000000) only [go_sem, seval, *]⟩
      have a1 : y ≠ L := by rintro rfl; rw [sL] at e; cases e
      have a2 : y ≠ g8 := by rintro rfl; rw [s8] at e; cases e
      have a3 : y ≠ g9 := by rintro rfl; rw [s9] at e; cases e
      have a6 : y ≠ g10 := by rintro rfl; rw [s10] at e; cases e
      have a4 := own_ne (m0 y ob e)
      have a5 := m0 y ob e
      simp -implicitDefEqProofs (maxSteps := 1000000) only [go_sem, seval, *]
  · intro i h' hlt hm hij
    rw [hId] at hij ⊢
    dsimp only at hij ⊢
    have e : wearN ws os fr to (i + 1) = wearN ws os fr to i := by rw [wearN, if_neg (by omega)]
    have e2 : tgN s0 s1 c0 c1 ws os fr to (i + 1) = tgN s0 s1 c0 c1 ws os fr to i := by rw [tgN, if_neg (by omega)]
    rw [e, e2]
    exact hij
  · rw [hId]
    refine ⟨?_, by simp -implicitDefEqProofs (maxSteps := 1000000) only [go_sem, seval, *], by simp -implicitDefEqProofs (maxSteps := 1000000) only [go_sem, seval, *], by simp -implicitDefEqProofs (maxSteps := 1000000) only [go_sem, seval, *]; rfl, by simp -implicitDefEqProofs (maxSteps := 1000000) only [go_sem, seval, *]; rfl, by simp -implicitDefEqProofs (maxSteps := 1000000) only [go_sem, seval, *]; rfl⟩
    rw [hSd]
    exact sub_set (by simp -implicitDefEqProofs (maxSteps := 1000000) only [go_sem, seval, *]) (sub_set (by simp -implicitDefEqProofs (maxSteps := 1000000) only [go_sem, seval, *]) (sub_set (by simp -implicitDefEqProofs (maxSteps := 1000000) only [go_sem, seval, *]) (sub_set (by simp -implicitDefEqProofs (maxSteps := 1000000) only [go_sem, seval, *]) (sub_set (by simp -implicitDefEqProofs (maxSteps := 1000000) only [go_sem, seval, *]) (sub_set (by simp -implicitDefEqProofs (maxSteps := 1000000) only [go_sem, seval, *]) sub_none)))))
  · intro h' hij
    rw [hId] at hij
    obtain ⟨m0, m1, m2, m3, m4, m5⟩ := hij
    have v1 := own_ne m1
    have v2 := own_ne m2
    have v3 := own_ne m3
    simp only [LeftK_app, m1, LeftR_some, en, OutR_none, es]
    refine ⟨(by intro hx; cases hx), ?_⟩
    have u6' := m0 _ _ u6
    have v6 := own_ne u6'
    have n_g6_L : g6 ≠ L ∧ L ≠ g6 := ⟨(by rintro rfl; rw [u6] at sL; cases sL), (by rintro rfl; rw [u6] at sL; cases sL)⟩
    have n_g6_D : g6 ≠ D ∧ D ≠ g6 := ⟨(by rintro rfl; rw [u6] at sD; cases sD), (by rintro rfl; rw [u6] at sD; cases sD)⟩
    have n_g6_g8 : g6 ≠ g8 ∧ g8 ≠ g6 := ⟨(by rintro rfl; rw [u6] at s8; cases s8), (by rintro rfl; rw [u6] at s8; cases s8)⟩
    have n_g6_g9 : g6 ≠ g9 ∧ g9 ≠ g6 := ⟨(by rintro rfl; rw [u6] at s9; cases s9), (by rintro rfl; rw [u6] at s9; cases s9)⟩
    have n_g6_g10 : g6 ≠ g10 ∧ g10 ≠ g6 := ⟨(by rintro rfl; rw [u6] at s10; cases s10), (by rintro rfl; rw [u6] at s10; cases s10)⟩
    have n_g6_g3 : g6 ≠ g3 ∧ g3 ≠ g6 := ⟨by simp only [hn6, not_false_eq_true, ne_eq], by simp only [hn6, not_false_eq_true, ne_eq]⟩
    have n_g8_L : g8 ≠ L ∧ L ≠ g8 := ⟨by simp only [hL2, not_false_eq_true, ne_eq], by simp only [hL2, not_false_eq_true, ne_eq]⟩
    have n_g8_D : g8 ≠ D ∧ D ≠ g8 := ⟨by simp only [hD2, not_false_eq_true, ne_eq], by simp only [hD2, not_false_eq_true, ne_eq]⟩
    have n_D_L : D ≠ L ∧ L ≠ D := ⟨by simp only [hL2, not_false_eq_true, ne_eq], by simp only [hL2, not_false_eq_true, ne_eq]⟩
    generalize tgN s0 s1 c0 c1 ws os fr to no = w at *
    clear hrec hSd hId
    simp -implicitDefEqProofs (maxSteps := 1000000) only [go_sem, seval, *]
    repeat' (first | (with_reducible refine at_seq (by with_unfolding_all exact rfl) ?_) | ((with_reducible first | refine at_plain (by with_unfolding_all exact rfl) ?_ | refine at_draw (by with_unfolding_all exact rfl) ?_ | refine at_cond (by with_unfolding_all exact rfl) ?_ | refine at_exit (by with_unfolding_all exact rfl) ?_ | refine at_ret (by with_unfolding_all exact rfl) ?_ | refine at_skip (by with_unfolding_all exact rfl) ?_ | refine at_label (by with_unfolding_all exact rfl) ?_) <;> try simp -implicitDefEqProofs (maxSteps := 1000000) only [go_sem, seval, *]) | (with_reducible first | refine at_block (by with_unfolding_all exact rfl) ?_ | refine at_loop (by with_unfolding_all exact rfl) ?_) | ((first | ((with_reducible refine NewK.intro fun g hg hn => ?_) <;> try simp only [own_none_iff] at hn) | ((with_reducible first | refine GuardB.split (fun hc => ?_) (fun hc => ?_) | refine CondK.split (fun hc => ?_) (fun hc => ?_) | refine PickK.split (fun hc => ?_) (fun hc => ?_) | refine GuardD.split (fun hc => ?_) (fun hc => ?_)) <;> (have hc2 := hc; try simp only [beq_eq_false_iff_ne, beq_iff_eq, ne_eq, bne_iff_ne, bne_eq_false_iff_eq, decide_eq_true_eq, decide_eq_false_iff_not, Bool.not_true, Bool.not_false, Int.not_le, Int.not_lt] at hc2)) | (with_reducible first | refine dop_buildSlice ?_ | refine dop_build ?_) | (with_reducible first | refine stp_build ?_ | refine stp_buildSlice ?_ | refine stp_store ?_ | refine stp_ns ?_) | (with_reducible refine NsB.intro (fun h' ho K' hk => by simp -implicitDefEqProofs (maxSteps := 1000000) only [go_sem, seval, *] <;> exact hk) ?_) | (with_reducible refine WrB.intro _ (by simp -implicitDefEqProofs (maxSteps := 1000000) only [go_sem, seval, *]) (fun h' ho K' hk => by simp -implicitDefEqProofs (maxSteps := 1000000) only [go_sem, seval, *]; exact hk) (fun h' ho K' hk => by simp -implicitDefEqProofs (maxSteps := 1000000) only [go_sem, seval, *] at hk; exact hk) (fun h' ho hk => by simp -implicitDefEqProofs (maxSteps := 1000000) only [go_sem, seval, *] at hk <;> with_unfolding_all exact False.elim hk) ?_) | (with_reducible refine WrB.intro _ (by simp -implicitDefEqProofs (maxSteps := 1000000) only [go_sem, seval, *]) (fun h' ho K' hk => by simp -implicitDefEqProofs (maxSteps := 1000000) only [go_sem, seval, *]; exact hk) ?_) | ((with_reducible refine DDraw.auto mo ?_ ?_); kernel_rfl)) <;> simp -implicitDefEqProofs (maxSteps := 1000000) only [go_sem, seval, *]) | (with_reducible refine bi_same ?_))

end Go.Proofs.Ytlbpfmnobapidaa
