/-
  Walks. Conditions: none.
-/
import Derived.Test.YtlbpfmnobapidaaD4
set_option linter.unusedVariables false
set_option linter.unusedSimpArgs false
namespace Go.Proofs.Ytlbpfmnobapidaa
open Go.RowKit Go.SL
set_option maxHeartbeats 1000000
set_option maxRecDepth 1000000
attribute [local go_sem] fl_getD fl_get fl_set lk_def st_def gL_nil gL_zero gL_succ sL_nil_zero sL_nil_succ sL_zero sL_succ Option.getD_none FgK_app onlyL_nil onlyL_none onlyL_some setO_some toB_bool toB_undef yl_def
attribute [local go_sem high] GuardK_yl GuardL_yl
attribute [local go_sem] initL_one initL_cons lastL_one lastL_cons LastK_app fin_round Fr.inr_w0 Fr.inr_ro Fr.inr_M cell_inr LoopO_some YieldK_some RoundQ_normal RoundQ_ret RoundQ_exit EndR_none EndR_some BegK_app BegR_some OutR_none OutR_ret OutR_exit LeftR_some LeftK_app
attribute [local go_sem] i64w
attribute [local go_sem] dwp_eqGuardE dwp_eqGuardN rval_eqGuardE rval_eqGuardN
attribute [local go_sem] add_none recL_state recL_pending
theorem sub_set {S H : Hp} {g : Nat} {o : Obj} (e : H.own g = some o) (k : ∀ y u, S.own y = some u → H.own y = some u) : ∀ y u, (S.set g o).own y = some u → H.own y = some u := by
  intro y u h
  rw [Hp.own_set] at h
  split at h
  · rename_i q; subst q; cases h; exact e
  · exact k y u h
theorem sub_none {H : Hp} : ∀ y u, Hp.none_.own y = some u → H.own y = some u := fun y u e => by cases e
theorem NewK.intro_inr {F : Fr} {ob : Obj} {K : Nat → Hp → Prop} {h : Hp} (H : ∀ g, F.w0.heap.size ≤ g → h.own g = none → K g (h.set g ob)) : NewK F.inr ob K h := NewK.intro H
theorem mul_bd {a b A B : Int} (h1 : 0 ≤ a) (h2 : a ≤ A) (h3 : 0 ≤ b) (h4 : b ≤ B) : 0 ≤ a * b ∧ a * b ≤ A * B :=
  ⟨Int.mul_nonneg h1 h3, Int.mul_le_mul h2 h4 h3 (Int.le_trans h1 h2)⟩
def ordAt (os : List Ord) (i : Nat) : Ord := os.getD i default
theorem ordAt_eq {os : List Ord} {i : Nat} {o : Ord} (h : os[i]? = some o) : ordAt os i = o := by
  unfold ordAt
  rw [List.getD_eq_getElem?_getD, h]; rfl
def wrAt (ws : List (Int × Int)) (st : Int) : Int × Int := ws.getD st.toNat (0, 0)
/-- Valid wears. -/
structure WearsOk (nw : Nat) (ws : List (Int × Int)) : Prop where
  len : ws.length = nw ∧ 1 ≤ nw ∧ nw ≤ 8
  bd : ∀ w ∈ ws, 0 ≤ w.1 ∧ w.1 ≤ w.2 ∧ w.2 ≤ 100000
theorem wrAt_get {nw : Nat} {ws : List (Int × Int)} (h : WearsOk nw ws) {st : Int} (hs : 0 ≤ st ∧ st < nw) : ws[st.toNat]? = some (wrAt ws st) := by
  have hl := h.len
  have : st.toNat < ws.length := by omega
  unfold wrAt
  rw [List.getD_eq_getElem?_getD, List.getElem?_eq_getElem this]; rfl
theorem wrAt_bd {nw : Nat} {ws : List (Int × Int)} (h : WearsOk nw ws) {st : Int} (hs : 0 ≤ st ∧ st < nw) : 0 ≤ (wrAt ws st).1 ∧ (wrAt ws st).1 ≤ (wrAt ws st).2 ∧ (wrAt ws st).2 ≤ 100000 :=
  h.bd _ (List.mem_of_getElem? (wrAt_get h hs))
/-- How much pieces wear the tool: of so many orders. -/
def wearN (ws : List (Int × Int)) (os : List Ord) (fr to : Int) : Nat → Int × Int
  | 0 => (0, 0)
  | i + 1 => if 0 < manyV os fr to i then ((wearN ws os fr to i).1 + (wrAt ws (ordAt os i).st).1 * manyV os fr to i, (wearN ws os fr to i).2 + (wrAt ws (ordAt os i).st).2 * manyV os fr to i) else wearN ws os fr to i
theorem many_pc {nw : Nat} {os : List Ord} (h : OrdsOk nw os) {fr to : Int} {i : Nat} {o : Ord} (hx : os[i]? = some o) : manyV os fr to i ≤ o.pc := by
  unfold manyV
  rw [fstV_succ hx]
  omega
theorem wearN_bd {nw : Nat} {ws : List (Int × Int)} {os : List Ord} (hw : WearsOk nw ws) (h : OrdsOk nw os) (fr to : Int) : ∀ i, i ≤ os.length → 0 ≤ (wearN ws os fr to i).1 ∧ (wearN ws os fr to i).1 ≤ (wearN ws os fr to i).2 ∧ (wearN ws os fr to i).2 ≤ 100000 * fstV os i
  | 0, _ => by rw [fstV_zero]; exact ⟨Int.le_refl _, Int.le_refl _, Int.le_refl _⟩
  | i + 1, hi => by
    have ih := wearN_bd hw h fr to i (by omega)
    have hx : os[i]? = some os[i] := List.getElem?_eq_getElem (by omega)
    have b := h.pc _ (List.getElem_mem (by omega : i < os.length))
    have s := h.st _ (List.getElem_mem (by omega : i < os.length))
    have wb := wrAt_bd hw s
    have mp := many_pc h hx (fr := fr) (to := to)
    rw [wearN, fstV_succ hx, ordAt_eq hx]
    split
    · rename_i hm
      generalize manyV os fr to i = m at *
      generalize wrAt ws os[i].st = w at *
      have m1 := mul_bd (a := w.1) (b := m) (A := w.2) (B := m) wb.1 wb.2.1 (by omega) (Int.le_refl _)
      have m2 := mul_bd (a := w.2) (b := m) (A := 100000) (B := os[i].pc) (by omega) wb.2.2 (by omega) mp
      dsimp only
      omega
    · omega
theorem ent_parts : entB Try.prog 105 = true := by unfold entB; rw [Try.func105]; rfl
set_option maxHeartbeats 8000000 in
theorem wear_ok (ro : Addr → Option Value) (gs : Nat) (s0 s1 c0 c1 : Int) (pw : Option Addr) (nw cw : Nat) (po : Option Addr) (no co : Nat) (pf : Option Addr) (cf : Nat) (dn : Bool) (ws : List (Int × Int)) (os : List Ord) (fr to : Int) (hS : ShopR ro gs s0 s1 c0 c1 pw nw cw po no co pf cf dn ws os) (hN : Hold (OrdsOk nw os ∧ os.length = no)) (hW : Hold (WearsOk nw ws)) (hB : Hold ((-1000000 ≤ fr ∧ fr ≤ 1000000) ∧ -1000000 ≤ to ∧ to ≤ 1000000)) :
    Cr Try.prog 65 #[.pointer (some ⟨gs, 0, none⟩), .int .i64 fr, .int .i64 to] ro (.agg #[.int .i64 (wearN ws os fr to no).1, .int .i64 (wearN ws os fr to no).2]) := by
  refine Cr.ofD fun F hF hT => ?_
  subst hF
  replace hS := Hold.mk hS
  (refine DCall.inlP (l := _) Try.func65 Try.ntmps65 rfl rfl (by simp only [seval, List.length_cons, List.length_nil]) (by simp only [seval, List.length_cons, List.length_nil]) ?_; simp only [Try.results65, List.map_cons, List.map_nil])
  repeat' (first | (with_reducible refine at_seq (by with_unfolding_all exact rfl) ?_) | ((with_reducible first | refine at_plain (by with_unfolding_all exact rfl) ?_ | refine at_draw (by with_unfolding_all exact rfl) ?_ | refine at_cond (by with_unfolding_all exact rfl) ?_ | refine at_exit (by with_unfolding_all exact rfl) ?_ | refine at_ret (by with_unfolding_all exact rfl) ?_ | refine at_skip (by with_unfolding_all exact rfl) ?_ | refine at_label (by with_unfolding_all exact rfl) ?_) <;> try simp -implicitDefEqProofs (maxSteps := 1000000) only [go_sem, seval, *]) | (with_reducible first | refine at_block (by with_unfolding_all exact rfl) ?_ | refine at_loop (by with_unfolding_all exact rfl) ?_) | ((first | ((with_reducible refine NewK.intro fun g hg hn => ?_) <;> try simp only [own_none_iff] at hn) | ((with_reducible first | refine GuardB.split (fun hc => ?_) (fun hc => ?_) | refine CondK.split (fun hc => ?_) (fun hc => ?_) | refine PickK.split (fun hc => ?_) (fun hc => ?_) | refine GuardD.split (fun hc => ?_) (fun hc => ?_)) <;> (have hc2 := hc; try simp only [beq_eq_false_iff_ne, beq_iff_eq, ne_eq, bne_iff_ne, bne_eq_false_iff_eq, decide_eq_true_eq, decide_eq_false_iff_not, Bool.not_true, Bool.not_false, Int.not_le, Int.not_lt] at hc2)) | (with_reducible first | refine dop_buildSlice ?_ | refine dop_build ?_) | ((with_reducible refine DDraw.told (id := 4) [0] [.tmp 6] mo ?_ ?_); kernel_rfl) | (with_reducible first | refine stp_build ?_ | refine stp_buildSlice ?_ | refine stp_store ?_ | refine stp_ns ?_) | (with_reducible refine NsB.intro (fun h' ho K' hk => by simp -implicitDefEqProofs (maxSteps := 1000000) only [go_sem, seval, *] <;> exact hk) ?_) | (with_reducible refine WrB.intro _ (by simp -implicitDefEqProofs (maxSteps := 1000000) only [go_sem, seval, *]) (fun h' ho K' hk => by simp -implicitDefEqProofs (maxSteps := 1000000) only [go_sem, seval, *]; exact hk) (fun h' ho K' hk => by simp -implicitDefEqProofs (maxSteps := 1000000) only [go_sem, seval, *] at hk; exact hk) (fun h' ho hk => by simp -implicitDefEqProofs (maxSteps := 1000000) only [go_sem, seval, *] at hk <;> with_unfolding_all exact False.elim hk) ?_) | (with_reducible refine WrB.intro _ (by simp -implicitDefEqProofs (maxSteps := 1000000) only [go_sem, seval, *]) (fun h' ho K' hk => by simp -implicitDefEqProofs (maxSteps := 1000000) only [go_sem, seval, *]; exact hk) ?_) | ((with_reducible refine DDraw.auto mo ?_ ?_); kernel_rfl)) <;> simp -implicitDefEqProofs (maxSteps := 1000000) only [go_sem, seval, *]) | (with_reducible refine bi_same ?_))
  (refine DCall.inlP (l := _) Try.func93 Try.ntmps93 rfl rfl (by simp only [seval, List.length_cons, List.length_nil]) (by simp only [seval, List.length_cons, List.length_nil]) ?_; simp only [Try.results93, List.map_cons, List.map_nil])
  repeat' (first | (with_reducible refine at_seq (by with_unfolding_all exact rfl) ?_) | ((with_reducible first | refine at_plain (by with_unfolding_all exact rfl) ?_ | refine at_draw (by with_unfolding_all exact rfl) ?_ | refine at_cond (by with_unfolding_all exact rfl) ?_ | refine at_exit (by with_unfolding_all exact rfl) ?_ | refine at_ret (by with_unfolding_all exact rfl) ?_ | refine at_skip (by with_unfolding_all exact rfl) ?_ | refine at_label (by with_unfolding_all exact rfl) ?_) <;> try simp -implicitDefEqProofs (maxSteps := 1000000) only [go_sem, seval, *]) | (with_reducible first | refine at_block (by with_unfolding_all exact rfl) ?_ | refine at_loop (by with_unfolding_all exact rfl) ?_) | ((first | ((with_reducible refine NewK.intro fun g hg hn => ?_) <;> try simp only [own_none_iff] at hn) | ((with_reducible first | refine GuardB.split (fun hc => ?_) (fun hc => ?_) | refine CondK.split (fun hc => ?_) (fun hc => ?_) | refine PickK.split (fun hc => ?_) (fun hc => ?_) | refine GuardD.split (fun hc => ?_) (fun hc => ?_)) <;> (have hc2 := hc; try simp only [beq_eq_false_iff_ne, beq_iff_eq, ne_eq, bne_iff_ne, bne_eq_false_iff_eq, decide_eq_true_eq, decide_eq_false_iff_not, Bool.not_true, Bool.not_false, Int.not_le, Int.not_lt] at hc2)) | (with_reducible first | refine dop_buildSlice ?_ | refine dop_build ?_) | (with_reducible first | refine stp_build ?_ | refine stp_buildSlice ?_ | refine stp_store ?_ | refine stp_ns ?_) | (with_reducible refine NsB.intro (fun h' ho K' hk => by simp -implicitDefEqProofs (maxSteps := 1000000) only [go_sem, seval, *] <;> exact hk) ?_) | (with_reducible refine WrB.intro _ (by simp -implicitDefEqProofs (maxSteps := 1000000) only [go_sem, seval, *]) (fun h' ho K' hk => by simp -implicitDefEqProofs (maxSteps := 1000000) only [go_sem, seval, *]; exact hk) (fun h' ho K' hk => by simp -implicitDefEqProofs (maxSteps := 1000000) only [go_sem, seval, *] at hk; exact hk) (fun h' ho hk => by simp -implicitDefEqProofs (maxSteps := 1000000) only [go_sem, seval, *] at hk <;> with_unfolding_all exact False.elim hk) ?_) | (with_reducible refine WrB.intro _ (by simp -implicitDefEqProofs (maxSteps := 1000000) only [go_sem, seval, *]) (fun h' ho K' hk => by simp -implicitDefEqProofs (maxSteps := 1000000) only [go_sem, seval, *]; exact hk) ?_) | ((with_reducible refine DDraw.auto mo ?_ ?_); kernel_rfl)) <;> simp -implicitDefEqProofs (maxSteps := 1000000) only [go_sem, seval, *]) | (with_reducible refine bi_same ?_))
  rename_i g3 hg3 hn3 g6 hg6 hn6 b1 hb1 hnb1 b3 hb3 hnb3
  generalize hgg : g = b2 at *
  clear hgg
  refine at_rangeFunc (by with_unfolding_all exact rfl) ?_
  refine DWp.rangeFunc (gf := 105) (lb := #[.pointer (some ⟨b1, 0, none⟩), .pointer (some ⟨b2, 0, none⟩), .pointer (some ⟨b3, 0, none⟩)]) hT (by simp -implicitDefEqProofs (maxSteps := 1000000) only [go_sem, seval, *]) ent_parts (fun D hD1 hD2 L hL1 hL2 fn => ?_)
  simp only [own_none_iff] at hD2 hL2
  generalize hrec : recL fn _ _ _ _ D = rec
  have es : rec.state = .ready := by rw [← hrec]; rfl
  have en : rec.pending = none := by rw [← hrec]; rfl
  have ea : rec.assign = _ := congrArg Loop.assign hrec.symm
  have eb : rec.body = _ := congrArg Loop.body hrec.symm
  have et : rec.tmps = _ := congrArg Loop.tmps hrec.symm
  have ep : rec.params = _ := congrArg Loop.params hrec.symm
  simp only [recL] at ea eb et ep
  replace ea := Hold.mk ea
  replace eb := Hold.mk eb
  replace et := Hold.mk et
  replace ep := Hold.mk ep
  have er : ({ state := .ready, pending := none, fn := rec.fn, tmps := rec.tmps, params := rec.params, assign := rec.assign, body := rec.body, defers := rec.defers } : Loop) = rec := by rw [← hrec]; rfl
  obtain ⟨S, hSd⟩ : ∃ S, S = (((Hp.none_.set g3 (.cells #[.pointer (some ⟨gs, 0, none⟩)] 98)).set b1 (.cells #[.pointer (some ⟨gs, 0, none⟩)] 98)).set b3 (.cells #[.int .i64 fr] 3)).set b2 (.cells #[.int .i64 to] 3) := ⟨_, rfl⟩
  have sL : S.own L = none := by rw [hSd]; simp -implicitDefEqProofs (maxSteps := 1000000) only [go_sem, seval, *]
  have sD : S.own D = none := by rw [hSd]; simp -implicitDefEqProofs (maxSteps := 1000000) only [go_sem, seval, *]
  have s6 : S.own g6 = none := by rw [hSd]; simp -implicitDefEqProofs (maxSteps := 1000000) only [go_sem, seval, *]
  have u3 : S.own g3 = some (.cells #[.pointer (some ⟨gs, 0, none⟩)] 98) := by rw [hSd]; simp -implicitDefEqProofs (maxSteps := 1000000) only [go_sem, seval, *]
  obtain ⟨I, hId⟩ : ∃ I : Nat → Hp → Prop, I = fun i h' => (∀ g o, S.own g = some o → h'.own g = some o) ∧ h'.own L = some (.loop rec) ∧ h'.own D = some (.deferred (some [])) ∧ h'.own g6 = some (.cells #[.int .i64 (wearN ws os fr to i).1, .int .i64 (wearN ws os fr to i).2] 23) := ⟨_, rfl⟩
  show DCall Try.prog F 105 #[.func (.yield L) #[] #[], .pointer (some ⟨b1, 0, none⟩), .pointer (some ⟨b2, 0, none⟩), .pointer (some ⟨b3, 0, none⟩)] _ _
  refine parts_D F _ _ gs s0 s1 c0 c1 pw nw cw po no co pf cf dn ws os fr to b1 b2 b3 L S I hN hB hS (by rw [hSd]; simp -implicitDefEqProofs (maxSteps := 1000000) only [go_sem, seval, *]) (by rw [hSd]; simp -implicitDefEqProofs (maxSteps := 1000000) only [go_sem, seval, *]) (by rw [hSd]; simp -implicitDefEqProofs (maxSteps := 1000000) only [go_sem, seval, *]) hb1 hg hb3 ⟨?_⟩ ⟨?_⟩ ⟨?_⟩ ?_ ⟨?_⟩
  · intro j h' hij
    rw [hId] at hij
    exact ⟨hij.1, rec, hij.2.1, by rw [ep.out]; rfl⟩
  · intro i h' o K' hxi hm hij hk r hr
    rw [hId] at hij
    obtain ⟨m0, m1, m2, m3⟩ := hij
    obtain rfl : rec = r := by rw [m1] at hr; cases hr; rfl
    have hlt : i < os.length := (List.getElem?_eq_some_iff.1 hxi).1
    have ho : o ∈ os := List.mem_of_getElem? hxi
    have pb := hN.out.1.pc _ ho
    have sb := hN.out.1.st _ ho
    have wb := wrAt_bd hW.out sb
    have wg := wrAt_get hW.out sb
    have mp := many_pc hN.out.1 hxi (fr := fr) (to := to)
    have nb := wearN_bd hW.out hN.out.1 fr to i (by omega)
    have fb := fstV_bd hN.out.1 i (by omega)
    have l40 := hN.out.1.len.2
    have stp : wearN ws os fr to (i + 1) = ((wearN ws os fr to i).1 + (wrAt ws o.st).1 * manyV os fr to i, (wearN ws os fr to i).2 + (wrAt ws o.st).2 * manyV os fr to i) := by rw [wearN, if_pos hm, ordAt_eq hxi]
    have hst : o.st.toNat < nw := by omega
    obtain ⟨b, off, ew, hro⟩ := hS.out.rw.at spC_len hst wg
    have r0 := hro 0 _ rfl
    have r1 := hro 1 _ rfl
    rw [Nat.add_zero] at r0
    have t5 := hS.out.m5
    rw [ew] at t5
    rw [hId] at hk
    dsimp only at hk
    rw [stp] at hk
    replace hk := Hold.mk hk
    generalize wearN ws os fr to i = w at *
    generalize wrAt ws o.st = v at *
    generalize manyV os fr to i = m at *
    have m1' := mul_bd (a := v.1) (b := m) (A := 100000) (B := 10000) wb.1 (by omega) (by omega) (by omega)
    have m2' := mul_bd (a := v.2) (b := m) (A := 100000) (B := 10000) (by omega) (by omega) (by omega) (by omega)
    have w1 : IntKind.i64.wrap (v.1 * m) = v.1 * m := IntWalk.i64_in _ (by omega)
    have w2 : IntKind.i64.wrap (v.2 * m) = v.2 * m := IntWalk.i64_in _ (by omega)
    have w3 : IntKind.i64.wrap (w.1 + v.1 * m) = w.1 + v.1 * m := IntWalk.i64_in _ (by omega)
    have w4 : IntKind.i64.wrap (w.2 + v.2 * m) = w.2 + v.2 * m := IntWalk.i64_in _ (by omega)
    have c1 : (o.st < (nw : Int)) = True := by simp only [eq_iff_iff, iff_true]; omega
    have c0 : (0 ≤ o.st) = True := by simp only [eq_iff_iff, iff_true]; omega
    have v1 := own_ne m1
    have v2 := own_ne m2
    have v3 := own_ne m3
    have u3' := m0 _ _ u3
    have v4 := own_ne u3'
    have n1 : g3 ≠ L ∧ L ≠ g3 := ⟨(by rintro rfl; rw [u3] at sL; cases sL), (by rintro rfl; rw [u3] at sL; cases sL)⟩
    have n2 : g3 ≠ g6 ∧ g6 ≠ g3 := ⟨(by rintro rfl; rw [u3] at s6; cases s6), (by rintro rfl; rw [u3] at s6; cases s6)⟩
    have n3 : g6 ≠ L ∧ L ≠ g6 := ⟨by simp only [hL2, not_false_eq_true, ne_eq], by simp only [hL2, not_false_eq_true, ne_eq]⟩
    have n4 : g6 ≠ D ∧ D ≠ g6 := ⟨by simp only [hD2, not_false_eq_true, ne_eq], by simp only [hD2, not_false_eq_true, ne_eq]⟩
    have n5 : D ≠ L ∧ L ≠ D := ⟨by simp only [hL2, not_false_eq_true, ne_eq], by simp only [hL2, not_false_eq_true, ne_eq]⟩
    clear pb sb wb wg mp nb fb l40 stp hst ew hro hxi ho m1' m2' hr hId hSd hL2 hD2 hn3 hn6 hnb1 hnb3 hn hb1 hb3 hg hD1 hL1
    refine DRound.intro ?_
    simp only [ea.out, eb.out, et.out, ep.out, fold2]
    clear hrec
    simp -implicitDefEqProofs (maxSteps := 1000000) only [go_sem, seval, *]
    repeat' (first | (with_reducible refine at_seq (by with_unfolding_all exact rfl) ?_) | ((with_reducible first | refine at_plain (by with_unfolding_all exact rfl) ?_ | refine at_draw (by with_unfolding_all exact rfl) ?_ | refine at_cond (by with_unfolding_all exact rfl) ?_ | refine at_exit (by with_unfolding_all exact rfl) ?_ | refine at_ret (by with_unfolding_all exact rfl) ?_ | refine at_skip (by with_unfolding_all exact rfl) ?_ | refine at_label (by with_unfolding_all exact rfl) ?_) <;> try simp -implicitDefEqProofs (maxSteps := 1000000) only [go_sem, seval, *]) | (with_reducible first | refine at_block (by with_unfolding_all exact rfl) ?_ | refine at_loop (by with_unfolding_all exact rfl) ?_) | ((first | ((with_reducible refine DDraw.told (id := 4) [0] [.tmp 6] mo ?_ ?_); kernel_rfl) | ((with_reducible refine NewK.intro_inr fun g hg hn => ?_); try simp only [own_none_iff] at hn) | ((with_reducible refine NewK.intro fun g hg hn => ?_) <;> try simp only [own_none_iff] at hn) | ((with_reducible first | refine GuardB.split (fun hc => ?_) (fun hc => ?_) | refine CondK.split (fun hc => ?_) (fun hc => ?_) | refine PickK.split (fun hc => ?_) (fun hc => ?_) | refine GuardD.split (fun hc => ?_) (fun hc => ?_)) <;> (have hc2 := hc; try simp only [beq_eq_false_iff_ne, beq_iff_eq, ne_eq, bne_iff_ne, bne_eq_false_iff_eq, decide_eq_true_eq, decide_eq_false_iff_not, Bool.not_true, Bool.not_false, Int.not_le, Int.not_lt] at hc2)) | (with_reducible first | refine dop_buildSlice ?_ | refine dop_build ?_) | ((with_reducible refine Cr.call (f := 94) (times_ok _ _ _ _ (by simp -implicitDefEqProofs (maxSteps := 1000000) only [go_sem, seval, *]) (by simp -implicitDefEqProofs (maxSteps := 1000000) only [go_sem, seval, *])) ?_)) | (with_reducible refine CallV.of (f := 94) (times_ok _ _ _ _ (by simp -implicitDefEqProofs (maxSteps := 1000000) only [go_sem, seval, *]) (by simp -implicitDefEqProofs (maxSteps := 1000000) only [go_sem, seval, *])) ni94 ?_) | ((with_reducible refine Cr.call (f := 80) (plus_ok _ _ _ _ _ (by simp -implicitDefEqProofs (maxSteps := 1000000) only [go_sem, seval, *]) (by simp -implicitDefEqProofs (maxSteps := 1000000) only [go_sem, seval, *])) ?_)) | (with_reducible refine CallV.of (f := 80) (plus_ok _ _ _ _ _ (by simp -implicitDefEqProofs (maxSteps := 1000000) only [go_sem, seval, *]) (by simp -implicitDefEqProofs (maxSteps := 1000000) only [go_sem, seval, *])) ni80 ?_) | (with_reducible first | refine stp_build ?_ | refine stp_buildSlice ?_ | refine stp_store ?_ | refine stp_ns ?_) | (with_reducible refine NsB.intro (fun h' ho K' hk => by simp -implicitDefEqProofs (maxSteps := 1000000) only [go_sem, seval, *] <;> exact hk) ?_) | (with_reducible refine WrB.intro _ (by simp -implicitDefEqProofs (maxSteps := 1000000) only [go_sem, seval, *]) (fun h' ho K' hk => by simp -implicitDefEqProofs (maxSteps := 1000000) only [go_sem, seval, *]; exact hk) (fun h' ho K' hk => by simp -implicitDefEqProofs (maxSteps := 1000000) only [go_sem, seval, *] at hk; exact hk) (fun h' ho hk => by simp -implicitDefEqProofs (maxSteps := 1000000) only [go_sem, seval, *] at hk <;> with_unfolding_all exact False.elim hk) ?_) | (with_reducible refine WrB.intro _ (by simp -implicitDefEqProofs (maxSteps := 1000000) only [go_sem, seval, *]) (fun h' ho K' hk => by simp -implicitDefEqProofs (maxSteps := 1000000) only [go_sem, seval, *]; exact hk) ?_) | ((with_reducible refine DDraw.auto mo ?_ ?_); kernel_rfl)) <;> simp -implicitDefEqProofs (maxSteps := 1000000) only [go_sem, seval, *]) | (with_reducible refine bi_same ?_))
    refine hk.out _ ⟨fun y ob e => ?_, by simp -implicitDefEqProofs (maxSteps := 1000000) only [go_sem, seval, *], by simp -implicitDefEqProofs (maxSteps := 1000000) only [go_sem, seval, *], by simp -implicitDefEqProofs (maxSteps := 1000000) only [go_sem, seval, *]⟩
    have a1 : y ≠ L := by rintro rfl; rw [sL] at e; cases e
    have a2 : y ≠ g6 := by rintro rfl; rw [s6] at e; cases e
    have a4 := own_ne (m0 y ob e)
    have a5 := m0 y ob e
    simp -implicitDefEqProofs (maxSteps := 1000000) only [go_sem, seval, *]
  · intro i h' hlt hm hij
    rw [hId] at hij ⊢
    dsimp only at hij ⊢
    have e : wearN ws os fr to (i + 1) = wearN ws os fr to i := by rw [wearN, if_neg (by omega)]
    rw [e]
    exact hij
  · rw [hId]
    refine ⟨?_, by simp -implicitDefEqProofs (maxSteps := 1000000) only [go_sem, seval, *], by simp -implicitDefEqProofs (maxSteps := 1000000) only [go_sem, seval, *], by simp -implicitDefEqProofs (maxSteps := 1000000) only [go_sem, seval, *]; rfl⟩
    rw [hSd]
    exact sub_set (by simp -implicitDefEqProofs (maxSteps := 1000000) only [go_sem, seval, *]) (sub_set (by simp -implicitDefEqProofs (maxSteps := 1000000) only [go_sem, seval, *]) (sub_set (by simp -implicitDefEqProofs (maxSteps := 1000000) only [go_sem, seval, *]) (sub_set (by simp -implicitDefEqProofs (maxSteps := 1000000) only [go_sem, seval, *]) sub_none)))
  · intro h' hij
    rw [hId] at hij
    obtain ⟨m0, m1, m2, m3⟩ := hij
    have v1 := own_ne m1
    have v2 := own_ne m2
    have v3 := own_ne m3
    simp only [LeftK_app, m1, LeftR_some, en, OutR_none, es]
    refine ⟨(by intro hx; cases hx), ?_⟩
    have n3 : g6 ≠ L ∧ L ≠ g6 := ⟨by simp only [hL2, not_false_eq_true, ne_eq], by simp only [hL2, not_false_eq_true, ne_eq]⟩
    have n5 : D ≠ L ∧ L ≠ D := ⟨by simp only [hL2, not_false_eq_true, ne_eq], by simp only [hL2, not_false_eq_true, ne_eq]⟩
    have n4 : g6 ≠ D ∧ D ≠ g6 := ⟨by simp only [hD2, not_false_eq_true, ne_eq], by simp only [hD2, not_false_eq_true, ne_eq]⟩
    generalize wearN ws os fr to no = w at *
    clear hrec hSd hId
    simp -implicitDefEqProofs (maxSteps := 1000000) only [go_sem, seval, *]
    repeat' (first | (with_reducible refine at_seq (by with_unfolding_all exact rfl) ?_) | ((with_reducible first | refine at_plain (by with_unfolding_all exact rfl) ?_ | refine at_draw (by with_unfolding_all exact rfl) ?_ | refine at_cond (by with_unfolding_all exact rfl) ?_ | refine at_exit (by with_unfolding_all exact rfl) ?_ | refine at_ret (by with_unfolding_all exact rfl) ?_ | refine at_skip (by with_unfolding_all exact rfl) ?_ | refine at_label (by with_unfolding_all exact rfl) ?_) <;> try simp -implicitDefEqProofs (maxSteps := 1000000) only [go_sem, seval, *]) | (with_reducible first | refine at_block (by with_unfolding_all exact rfl) ?_ | refine at_loop (by with_unfolding_all exact rfl) ?_) | ((first | ((with_reducible refine NewK.intro fun g hg hn => ?_) <;> try simp only [own_none_iff] at hn) | ((with_reducible first | refine GuardB.split (fun hc => ?_) (fun hc => ?_) | refine CondK.split (fun hc => ?_) (fun hc => ?_) | refine PickK.split (fun hc => ?_) (fun hc => ?_) | refine GuardD.split (fun hc => ?_) (fun hc => ?_)) <;> (have hc2 := hc; try simp only [beq_eq_false_iff_ne, beq_iff_eq, ne_eq, bne_iff_ne, bne_eq_false_iff_eq, decide_eq_true_eq, decide_eq_false_iff_not, Bool.not_true, Bool.not_false, Int.not_le, Int.not_lt] at hc2)) | (with_reducible first | refine dop_buildSlice ?_ | refine dop_build ?_) | (with_reducible first | refine stp_build ?_ | refine stp_buildSlice ?_ | refine stp_store ?_ | refine stp_ns ?_) | (with_reducible refine NsB.intro (fun h' ho K' hk => by simp -implicitDefEqProofs (maxSteps := 1000000) only [go_sem, seval, *] <;> exact hk) ?_) | (with_reducible refine WrB.intro _ (by simp -implicitDefEqProofs (maxSteps := 1000000) only [go_sem, seval, *]) (fun h' ho K' hk => by simp -implicitDefEqProofs (maxSteps := 1000000) only [go_sem, seval, *]; exact hk) (fun h' ho K' hk => by simp -implicitDefEqProofs (maxSteps := 1000000) only [go_sem, seval, *] at hk; exact hk) (fun h' ho hk => by simp -implicitDefEqProofs (maxSteps := 1000000) only [go_sem, seval, *] at hk <;> with_unfolding_all exact False.elim hk) ?_) | (with_reducible refine WrB.intro _ (by simp -implicitDefEqProofs (maxSteps := 1000000) only [go_sem, seval, *]) (fun h' ho K' hk => by simp -implicitDefEqProofs (maxSteps := 1000000) only [go_sem, seval, *]; exact hk) ?_) | ((with_reducible refine DDraw.auto mo ?_ ?_); kernel_rfl)) <;> simp -implicitDefEqProofs (maxSteps := 1000000) only [go_sem, seval, *]) | (with_reducible refine bi_same ?_))

end Go.Proofs.Ytlbpfmnobapidaa
