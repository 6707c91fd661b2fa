/-
  Walks. Conditions: none.
-/
import Derived.Test.YtlbpfmnobapidaaD14
set_option linter.unusedVariables false
set_option linter.unusedSimpArgs false
namespace Go.Proofs.Ytlbpfmnobapidaa
open Go.RowKit Go.SL
set_option maxHeartbeats 1000000
set_option maxRecDepth 1000000
attribute [local go_sem] fl_getD fl_get fl_set lk_def st_def gL_nil gL_zero gL_succ sL_nil_zero sL_nil_succ sL_zero sL_succ Option.getD_none FgK_app onlyL_nil onlyL_none onlyL_some setO_some toB_bool toB_undef yl_def
attribute [local go_sem high] GuardK_yl GuardL_yl
attribute [local go_sem] initL_one initL_cons lastL_one lastL_cons LastK_app fin_round Fr.inr_w0 Fr.inr_ro Fr.inr_M cell_inr LoopO_some YieldK_some RoundQ_normal RoundQ_ret RoundQ_exit EndR_none EndR_some BegK_app BegR_some OutR_none OutR_ret OutR_exit LeftR_some LeftK_app
attribute [local go_sem] i64w
attribute [local go_sem] dwp_eqGuardE dwp_eqGuardN rval_eqGuardE rval_eqGuardN
attribute [local go_sem] add_none recL_state recL_pending
/-- Two memories, beside each other. -/
def joinH (h h' : Hp) : Hp := ⟨fun k => match h.own k with | some o => some o | none => h'.own k⟩
theorem join_l {h h' : Hp} {g : Nat} {o : Obj} (e : h.own g = some o) : (joinH h h').own g = some o := by unfold joinH; dsimp only; rw [e]
theorem join_r {h h' : Hp} (hd : ∀ b o, h'.own b = some o → h.own b = none) {g : Nat} {o : Obj} (e : h'.own g = some o) : (joinH h h').own g = some o := by
  unfold joinH; dsimp only; rw [hd g o e]; exact e
/-- A call whose own memory is new. -/
theorem DCall.fresh {P : Program} {F : Fr} {f : FuncId} {args : Array Value} {h : Hp} {K : Value → Hp → Prop} {K' : Fr → Value → Hp → Prop} (c : ∀ F' : Fr, F'.ro = F.ro → F'.top = true → F.w0.heap.size ≤ F'.w0.heap.size → DCall P F' f args Hp.none_ (K' F'))
    (hk : ∀ F' v h', F'.ro = F.ro → F.w0.heap.size ≤ F'.w0.heap.size → K' F' v h' → (∀ b o, h'.own b = some o → h.own b = none ∧ F.w0.heap.size ≤ b) → K v (joinH h h')) : DCall P F f args h K := by
  refine ⟨fun w r => ?_⟩
  let F' : Fr := ⟨w, fun _ => False, F.ro, fun a u e => ⟨r.cell (Hp.cell_ro e), fun x => x⟩, true⟩
  refine ((c F' rfl rfl r.size).out w (HRel.start F' Hp.none_ (fun _ => rfl))).mono fun e w' hh => ?_
  obtain ⟨v, h', he, hv, r'⟩ := hh
  have hd : ∀ b o, h'.own b = some o → h.own b = none ∧ F.w0.heap.size ≤ b := fun b o e => by
    have hm : w.heap.size ≤ b := (r'.mine b o e).resolve_right fun x => x
    refine ⟨?_, Nat.le_trans r.size hm⟩
    cases e2 : h.own b with
    | none => rfl
    | some q => have := own_lt r e2; omega
  refine ⟨v, joinH h h', he, hk F' v h' rfl r.size hv hd, ?_⟩
  refine ⟨fun g o e => ?_, Nat.le_trans r.size r'.size, r'.os.trans r.os, r'.tape.trans r.tape, r'.output.trans r.output, fun b h1 h2 => ?_, fun g o e => ?_⟩
  · unfold joinH at e
    dsimp only at e
    cases e2 : h.own g with
    | none => rw [e2] at e; exact r'.own g o e
    | some q =>
      rw [e2] at e
      cases e
      exact (r'.frame g (own_lt r e2) fun x => x).trans (r.own g _ e2)
  · exact (r'.frame b (Nat.lt_of_lt_of_le h1 r.size) fun x => x).trans (r.frame b h1 h2)
  · unfold joinH at e
    dsimp only at e
    cases e2 : h.own g with
    | none => rw [e2] at e; exact .inl (hd g o e).2
    | some q => exact r.mine g q e2
theorem cell_same {F F' : Fr} {h : Hp} (e : F'.ro = F.ro) : h.cell? F' = h.cell? F := by
  funext a
  unfold Hp.cell?
  rw [e]
theorem open_N (F : Fr) (h : Hp) (K : Value → Hp → Prop) (dn : Bool) (s0 s1 c0 c1 : Int) (pw : Option Addr) (nw cw : Nat) (ws : List (Int × Int)) (po : Option Addr) (no co : Nat) (os : List Ord) (hx : RdS F.ro pw nw 2 (ws.flatMap spC)) (hb : Hold (nw < 9223372036854775808)) (hy : RdS F.ro po no 4 (os.flatMap oC)) (hb' : Hold (no < 9223372036854775808)) (he : chkV s0 s1 c0 c1 ws os = 0)
    (hK : ∀ gs po' co' pf cf h', (∀ b o, h'.own b = some o → h.own b = none ∧ F.w0.heap.size ≤ b) → Hold (ShopR (h'.cell? F) gs (sgnA dn s0 s1) (sgnB dn s0 s1) (sgnA dn c0 c1) (sgnB dn c0 c1) pw nw cw po' no co' pf cf dn ws (ordT dn os)) → K (.tuple #[.pointer (some ⟨gs, 0, none⟩), .int .i64 0]) (joinH h h')) :
    DCall Try.prog F 63 #[.agg #[.bool dn, .int .i64 s0, .int .i64 s1, .int .i64 c0, .int .i64 c1, .slice pw nw cw], .slice po no co] h K := by
  refine DCall.fresh (K' := fun F' v h' => ∃ gs po' co' pf cf, ShopR (h'.cell? F') gs (sgnA dn s0 s1) (sgnB dn s0 s1) (sgnA dn c0 c1) (sgnB dn c0 c1) pw nw cw po' no co' pf cf dn ws (ordT dn os) ∧ v = .tuple #[.pointer (some ⟨gs, 0, none⟩), .int .i64 0]) (fun F' e1 e2 e3 => ?_) (fun F' v h' e1 e2 e3 e4 => ?_)
  · refine open_K F' Hp.none_ _ dn s0 s1 c0 c1 pw nw cw ws po no co os (hx.mono fun a u e => Hp.cell_ro (by rw [e1]; exact e)) hb (hy.mono fun a u e => Hp.cell_ro (by rw [e1]; exact e)) hb' he fun gs po' co' pf cf h' f1 f2 f3 f4 => ?_
    exact ⟨gs, po', co', pf, cf, f2.out, rfl⟩
  · obtain ⟨gs, po', co', pf, cf, f2, rfl⟩ := e3
    rw [cell_same e1] at f2
    exact hK gs po' co' pf cf h' e4 ⟨f2⟩
/-- How far so many settings go. -/
def stepN (s0 s1 c0 c1 : Int) (ws : List (Int × Int)) (os : List Ord) : Nat → Nat → Nat
  | 0, fr => fr
  | k + 1, fr => stepN s0 s1 c0 c1 ws os k (reachV s0 s1 c0 c1 ws os fr)
theorem stepN_fix {s0 s1 c0 c1 : Int} {ws : List (Int × Int)} {os : List Ord} {fr : Nat} (h : reachV s0 s1 c0 c1 ws os fr = fr) : ∀ k, stepN s0 s1 c0 c1 ws os k fr = fr
  | 0 => rfl
  | k + 1 => by rw [stepN, h, stepN_fix h k]
theorem reach_all {s0 s1 c0 c1 : Int} {ws : List (Int × Int)} {os : List Ord} : reachV s0 s1 c0 c1 ws os (allN os) = allN os := by
  have := reachV_bd (s0 := s0) (s1 := s1) (c0 := c0) (c1 := c1) (ws := ws) (os := os) (fr := allN os) (Nat.le_refl _)
  omega
theorem ent_steps : entB Try.prog 72 = true := by unfold entB; rw [Try.func72]; rfl
set_option maxHeartbeats 8000000 in
theorem Most_K (ro : Addr → Option Value) (dn : Bool) (s0 s1 c0 c1 : Int) (pw : Option Addr) (nw cw : Nat) (ws : List (Int × Int)) (po : Option Addr) (no co : Nat) (os : List Ord) (k0 : Nat) (hx : RdS ro pw nw 2 (ws.flatMap spC)) (hb : Hold (nw < 9223372036854775808)) (hy : RdS ro po no 4 (os.flatMap oC)) (hb' : Hold (no < 9223372036854775808)) (he : chkV s0 s1 c0 c1 ws os = 0) (hk : k0 ≤ 1000) :
    Cr Try.prog 30 #[.agg #[.bool dn, .int .i64 s0, .int .i64 s1, .int .i64 c0, .int .i64 c1, .slice pw nw cw], .slice po no co, .int .i64 k0] ro (.tuple #[.int .i64 (stepN (sgnA dn s0 s1) (sgnB dn s0 s1) (sgnA dn c0 c1) (sgnB dn c0 c1) ws (ordT dn os) k0 0), .int .i64 0]) := by
  have hl1 := hx.count spC_len (by decide)
  have hl2 := hy.count oC_len (by decide)
  have sv0 := chk_shop he
  rw [hl1, hl2] at sv0
  have sv := Hold.mk (shop_turn dn sv0)
  refine Cr.ofD fun F hF hT => ?_
  subst hF
  have hop : Hold (∀ (h : Hp) (K : Value → Hp → Prop), (∀ gs po' co' pf cf h', (∀ b o, h'.own b = some o → h.own b = none ∧ F.w0.heap.size ≤ b) → Hold (ShopR (h'.cell? F) gs (sgnA dn s0 s1) (sgnB dn s0 s1) (sgnA dn c0 c1) (sgnB dn c0 c1) pw nw cw po' no co' pf cf dn ws (ordT dn os)) → K (.tuple #[.pointer (some ⟨gs, 0, none⟩), .int .i64 0]) (joinH h h')) → DCall Try.prog F 63 #[.agg #[.bool dn, .int .i64 s0, .int .i64 s1, .int .i64 c0, .int .i64 c1, .slice pw nw cw], .slice po no co] h K) := ⟨fun h K hK => open_N F h K dn s0 s1 c0 c1 pw nw cw ws po no co os hx hb hy hb' he hK⟩
  have hb1 : (decide (0 ≤ (k0 : Int)) && decide ((k0 : Int) ≤ 1000)) = true := by
    simp only [Bool.and_eq_true, decide_eq_true_eq]
    omega
  have kb := Hold.mk hk
  clear hl1 hl2 sv0 hx hy he hk
  (refine DCall.inlP (l := _) Try.func30 Try.ntmps30 rfl rfl (by simp only [seval, List.length_cons, List.length_nil]) (by simp only [seval, List.length_cons, List.length_nil]) ?_; simp only [Try.results30, List.map_cons, List.map_nil])
  repeat' (first | (with_reducible refine at_seq (by with_unfolding_all exact rfl) ?_) | ((with_reducible first | refine at_plain (by with_unfolding_all exact rfl) ?_ | refine at_draw (by with_unfolding_all exact rfl) ?_ | refine at_cond (by with_unfolding_all exact rfl) ?_ | refine at_exit (by with_unfolding_all exact rfl) ?_ | refine at_ret (by with_unfolding_all exact rfl) ?_ | refine at_skip (by with_unfolding_all exact rfl) ?_ | refine at_label (by with_unfolding_all exact rfl) ?_) <;> try simp -implicitDefEqProofs (maxSteps := 1000000) only [go_sem, seval, *]) | (with_reducible first | refine at_block (by with_unfolding_all exact rfl) ?_ | refine at_loop (by with_unfolding_all exact rfl) ?_) | ((first | ((with_reducible refine NewK.intro fun g hg hn => ?_) <;> try simp only [own_none_iff] at hn) | ((with_reducible first | refine GuardB.split (fun hc => ?_) (fun hc => ?_) | refine CondK.split (fun hc => ?_) (fun hc => ?_) | refine PickK.split (fun hc => ?_) (fun hc => ?_) | refine GuardD.split (fun hc => ?_) (fun hc => ?_)) <;> (have hc2 := hc; try simp only [beq_eq_false_iff_ne, beq_iff_eq, ne_eq, bne_iff_ne, bne_eq_false_iff_eq, decide_eq_true_eq, decide_eq_false_iff_not, Bool.not_true, Bool.not_false, Int.not_le, Int.not_lt] at hc2)) | (with_reducible first | refine dop_buildSlice ?_ | refine dop_build ?_) | ((with_reducible refine DDraw.told (id := 9) [1] [.tmp 6, .tmp 5] mo ?_ ?_); kernel_rfl) | (with_reducible first | refine stp_build ?_ | refine stp_buildSlice ?_ | refine stp_store ?_ | refine stp_ns ?_) | (with_reducible refine NsB.intro (fun h' ho K' hk => by simp -implicitDefEqProofs (maxSteps := 1000000) only [go_sem, seval, *] <;> exact hk) ?_) | (with_reducible refine WrB.intro _ (by simp -implicitDefEqProofs (maxSteps := 1000000) only [go_sem, seval, *]) (fun h' ho K' hk => by simp -implicitDefEqProofs (maxSteps := 1000000) only [go_sem, seval, *]; exact hk) (fun h' ho K' hk => by simp -implicitDefEqProofs (maxSteps := 1000000) only [go_sem, seval, *] at hk; exact hk) (fun h' ho hk => by simp -implicitDefEqProofs (maxSteps := 1000000) only [go_sem, seval, *] at hk <;> with_unfolding_all exact False.elim hk) ?_) | (with_reducible refine WrB.intro _ (by simp -implicitDefEqProofs (maxSteps := 1000000) only [go_sem, seval, *]) (fun h' ho K' hk => by simp -implicitDefEqProofs (maxSteps := 1000000) only [go_sem, seval, *]; exact hk) ?_) | ((with_reducible refine DDraw.auto mo ?_ ?_); kernel_rfl)) <;> simp -implicitDefEqProofs (maxSteps := 1000000) only [go_sem, seval, *]) | (with_reducible refine bi_same ?_))
  rename_i g3 hg3 hn3 g5 hg5 hn5
  generalize hgg : g = g6 at *
  clear hgg
  refine hop.out _ _ fun gs po' co' pf cf S hd hS => ?_
  clear hop
  generalize hH : joinH _ S = H
  have hS0 : H = _ := hH.symm
  have u5 : H.own g5 = some (.cells #[.int .i64 k0] 3) := by rw [hS0]; exact join_l (by simp -implicitDefEqProofs (maxSteps := 1000000) only [go_sem, seval, *])
  have u6 : H.own g6 = some (.cells #[.int .i64 0] 3) := by rw [hS0]; exact join_l (by simp -implicitDefEqProofs (maxSteps := 1000000) only [go_sem, seval, *])
  have hSH : ∀ y o, S.own y = some o → H.own y = some o := fun y o e => by rw [hS0]; exact join_r (fun b o e => (hd b o e).1) e
  have s5 : S.own g5 = none := by
    cases e : S.own g5 with
    | none => rfl
    | some o => have := (hd g5 o e).1; simp only [own_none_iff] at this; exact absurd rfl this.2.2.1
  have s6 : S.own g6 = none := by
    cases e : S.own g6 with
    | none => rfl
    | some o => have := (hd g6 o e).1; simp only [own_none_iff] at this; exact absurd rfl this.1
  have n56 : g5 ≠ g6 ∧ g6 ≠ g5 := ⟨hn.2.1, hn.1⟩
  clear hS0 hH hd hn hn3 hn5
  have v5 := own_ne u5
  have v6 := own_ne u6
  simp -implicitDefEqProofs (maxSteps := 1000000) only [go_sem, seval, *]
  repeat' (first | (with_reducible refine at_seq (by with_unfolding_all exact rfl) ?_) | ((with_reducible first | refine at_plain (by with_unfolding_all exact rfl) ?_ | refine at_draw (by with_unfolding_all exact rfl) ?_ | refine at_cond (by with_unfolding_all exact rfl) ?_ | refine at_exit (by with_unfolding_all exact rfl) ?_ | refine at_ret (by with_unfolding_all exact rfl) ?_ | refine at_skip (by with_unfolding_all exact rfl) ?_ | refine at_label (by with_unfolding_all exact rfl) ?_) <;> try simp -implicitDefEqProofs (maxSteps := 1000000) only [go_sem, seval, *]) | (with_reducible first | refine at_block (by with_unfolding_all exact rfl) ?_ | refine at_loop (by with_unfolding_all exact rfl) ?_) | ((first | ((with_reducible refine NewK.intro fun g hg hn => ?_) <;> try simp only [own_none_iff] at hn) | ((with_reducible first | refine GuardB.split (fun hc => ?_) (fun hc => ?_) | refine CondK.split (fun hc => ?_) (fun hc => ?_) | refine PickK.split (fun hc => ?_) (fun hc => ?_) | refine GuardD.split (fun hc => ?_) (fun hc => ?_)) <;> (have hc2 := hc; try simp only [beq_eq_false_iff_ne, beq_iff_eq, ne_eq, bne_iff_ne, bne_eq_false_iff_eq, decide_eq_true_eq, decide_eq_false_iff_not, Bool.not_true, Bool.not_false, Int.not_le, Int.not_lt] at hc2)) | (with_reducible first | refine dop_buildSlice ?_ | refine dop_build ?_) | ((with_reducible refine Cr.call (f := 60) (withinB_ok _ _ _ _ _ _ _ (by simp -implicitDefEqProofs (maxSteps := 1000000) only [go_sem, seval, *]) ⟨by decide⟩) ?_)) | (with_reducible refine CallV.of (f := 60) (withinB_ok _ _ _ _ _ _ _ (by simp -implicitDefEqProofs (maxSteps := 1000000) only [go_sem, seval, *]) ⟨by decide⟩) ni60 ?_) | ((with_reducible refine DDraw.told (id := 9) [1] [.tmp 6, .tmp 5] mo ?_ ?_); kernel_rfl) | (with_reducible first | refine stp_build ?_ | refine stp_buildSlice ?_ | refine stp_store ?_ | refine stp_ns ?_) | (with_reducible refine NsB.intro (fun h' ho K' hk => by simp -implicitDefEqProofs (maxSteps := 1000000) only [go_sem, seval, *] <;> exact hk) ?_) | (with_reducible refine WrB.intro _ (by simp -implicitDefEqProofs (maxSteps := 1000000) only [go_sem, seval, *]) (fun h' ho K' hk => by simp -implicitDefEqProofs (maxSteps := 1000000) only [go_sem, seval, *]; exact hk) (fun h' ho K' hk => by simp -implicitDefEqProofs (maxSteps := 1000000) only [go_sem, seval, *] at hk; exact hk) (fun h' ho hk => by simp -implicitDefEqProofs (maxSteps := 1000000) only [go_sem, seval, *] at hk <;> with_unfolding_all exact False.elim hk) ?_) | (with_reducible refine WrB.intro _ (by simp -implicitDefEqProofs (maxSteps := 1000000) only [go_sem, seval, *]) (fun h' ho K' hk => by simp -implicitDefEqProofs (maxSteps := 1000000) only [go_sem, seval, *]; exact hk) ?_) | ((with_reducible refine DDraw.auto mo ?_ ?_); kernel_rfl)) <;> simp -implicitDefEqProofs (maxSteps := 1000000) only [go_sem, seval, *]) | (with_reducible refine bi_same ?_))
  refine at_rangeFunc (by with_unfolding_all exact rfl) ?_
  refine DWp.rangeFuncB (gf := 72) (ba := #[.pointer (some ⟨gs, 0, none⟩)]) (lb := #[]) hT (by simp -implicitDefEqProofs (maxSteps := 1000000) only [go_sem, seval, *]) ent_steps (fun D hD1 hD2 L hL1 hL2 fn => ?_)
  simp only [own_none_iff] at hD2 hL2
  generalize hrec : recL fn _ _ _ _ D = rec
  have es : rec.state = .ready := by rw [← hrec]; rfl
  have en : rec.pending = none := by rw [← hrec]; rfl
  have ea : rec.assign = _ := congrArg Loop.assign hrec.symm
  have eb : rec.body = _ := congrArg Loop.body hrec.symm
  have et : rec.tmps = _ := congrArg Loop.tmps hrec.symm
  have ep : rec.params = _ := congrArg Loop.params hrec.symm
  simp only [recL] at ea eb et ep
  replace ea := Hold.mk ea
  replace eb := Hold.mk eb
  replace et := Hold.mk et
  replace ep := Hold.mk ep
  have er : ({ state := .ready, pending := none, fn := rec.fn, tmps := rec.tmps, params := rec.params, assign := rec.assign, body := rec.body, defers := rec.defers } : Loop) = rec := by rw [← hrec]; rfl
  have hLH : H.own L = none := hL2.2.2.2.2
  have hDH : H.own D = none := hD2.2.2
  have sL := kept_none hSH hLH
  have sD := kept_none hSH hDH
  have n5L := v5 L hLH
  have n6L := v6 L hLH
  have n5D := v5 D hDH
  have n6D := v6 D hDH
  have nDL : D ≠ L ∧ L ≠ D := ⟨hL2.2.1, hL2.1⟩
  have nG := own_ne1 u5
  clear hL2 hD2
  obtain ⟨M, hM⟩ : ∃ M, M = stepN (sgnA dn s0 s1) (sgnB dn s0 s1) (sgnA dn c0 c1) (sgnB dn c0 c1) ws (ordT dn os) k0 0 := ⟨_, rfl⟩
  obtain ⟨I, hId⟩ : ∃ I : Nat → Hp → Prop, I = fun fr h' => (∀ g o, S.own g = some o → h'.own g = some o) ∧ h'.own L = some (.loop rec) ∧ h'.own D = some (.deferred (some [])) ∧ ∃ k : Nat, k ≤ k0 ∧ h'.own g5 = some (.cells #[.int .i64 k] 3) ∧ h'.own g6 = some (.cells #[.int .i64 fr] 3) ∧ stepN (sgnA dn s0 s1) (sgnB dn s0 s1) (sgnA dn c0 c1) (sgnB dn c0 c1) ws (ordT dn os) k fr = M := ⟨_, rfl⟩
  obtain ⟨E, hEd⟩ : ∃ E : Hp → Prop, E = fun h' => h'.own L = some (.loop { rec with state := .done, pending := some (.exit 1) }) ∧ h'.own D = some (.deferred (some [])) ∧ h'.own g6 = some (.cells #[.int .i64 M] 3) := ⟨_, rfl⟩
  show DCall Try.prog F 72 #[.pointer (some ⟨gs, 0, none⟩), .func (.yield L) #[] #[]] _ _
  have e0 : (allN (ordT dn os)) = allN os := ordT_all dn os
  refine steps_D F _ _ gs _ _ _ _ pw nw cw po' no co' pf cf dn ws (ordT dn os) L S I (fun fr h => I (reachV (sgnA dn s0 s1) (sgnB dn s0 s1) (sgnA dn c0 c1) (sgnB dn c0 c1) ws (ordT dn os) fr) h) E sv hS ⟨?_⟩ ⟨?_⟩ ⟨fun fr h _ _ q => q⟩ ?_ ⟨?_⟩ ⟨?_⟩ ⟨?_⟩
  · intro fr h' hij
    rw [hId] at hij
    exact ⟨hij.1, rec, hij.2.1, by rw [ep.out]; rfl⟩
  · intro fr h' K' hlt hij hk hke r hr
    rw [hId] at hij
    obtain ⟨m0, m1, m2, k, hk0, m3, m4, m5⟩ := hij
    obtain rfl : rec = r := by rw [m1] at hr; cases hr; rfl
    have w1 := own_ne m1
    have w2 := own_ne m2
    have w3 := own_ne m3
    have w4 := own_ne m4
    have kb' := kb.out
    generalize hto : reachV (sgnA dn s0 s1) (sgnB dn s0 s1) (sgnA dn c0 c1) (sgnB dn c0 c1) ws (ordT dn os) fr = to at *
    replace hk := Hold.mk hk
    replace hke := Hold.mk hke
    rw [hId] at hk
    rw [hEd] at hke
    dsimp only at hk hke
    cases k with
    | zero =>
      replace m5 : fr = M := m5
      subst m5
      have w5 : (((0 : Nat) : Int) == 0) = true := rfl
      clear hr hId hEd hM hlt hto kb' hk0 hk
      refine DRound.intro ?_
      simp only [ea.out, eb.out, et.out, ep.out, fold2]
      clear hrec
      simp -implicitDefEqProofs (maxSteps := 1000000) only [go_sem, seval, *]
      repeat' (first | (with_reducible refine at_seq (by with_unfolding_all exact rfl) ?_) | ((with_reducible first | refine at_plain (by with_unfolding_all exact rfl) ?_ | refine at_draw (by with_unfolding_all exact rfl) ?_ | refine at_cond (by with_unfolding_all exact rfl) ?_ | refine at_exit (by with_unfolding_all exact rfl) ?_ | refine at_ret (by with_unfolding_all exact rfl) ?_ | refine at_skip (by with_unfolding_all exact rfl) ?_ | refine at_label (by with_unfolding_all exact rfl) ?_) <;> try simp -implicitDefEqProofs (maxSteps := 1000000) only [go_sem, seval, *]) | (with_reducible first | refine at_block (by with_unfolding_all exact rfl) ?_ | refine at_loop (by with_unfolding_all exact rfl) ?_) | ((first | ((with_reducible refine NewK.intro_inr fun g hg hn => ?_); try simp only [own_none_iff] at hn) | ((with_reducible refine NewK.intro fun g hg hn => ?_) <;> try simp only [own_none_iff] at hn) | ((with_reducible first | refine GuardB.split (fun hc => ?_) (fun hc => ?_) | refine CondK.split (fun hc => ?_) (fun hc => ?_) | refine PickK.split (fun hc => ?_) (fun hc => ?_) | refine GuardD.split (fun hc => ?_) (fun hc => ?_)) <;> (have hc2 := hc; try simp only [beq_eq_false_iff_ne, beq_iff_eq, ne_eq, bne_iff_ne, bne_eq_false_iff_eq, decide_eq_true_eq, decide_eq_false_iff_not, Bool.not_true, Bool.not_false, Int.not_le, Int.not_lt] at hc2)) | (with_reducible first | refine dop_buildSlice ?_ | refine dop_build ?_) | ((with_reducible refine DDraw.told (id := 9) [1] [.tmp 6, .tmp 5] mo ?_ ?_); kernel_rfl) | (with_reducible first | refine stp_build ?_ | refine stp_buildSlice ?_ | refine stp_store ?_ | refine stp_ns ?_) | (with_reducible refine NsB.intro (fun h' ho K' hk => by simp -implicitDefEqProofs (maxSteps := 1000000) only [go_sem, seval, *] <;> exact hk) ?_) | (with_reducible refine WrB.intro _ (by simp -implicitDefEqProofs (maxSteps := 1000000) only [go_sem, seval, *]) (fun h' ho K' hk => by simp -implicitDefEqProofs (maxSteps := 1000000) only [go_sem, seval, *]; exact hk) (fun h' ho K' hk => by simp -implicitDefEqProofs (maxSteps := 1000000) only [go_sem, seval, *] at hk; exact hk) (fun h' ho hk => by simp -implicitDefEqProofs (maxSteps := 1000000) only [go_sem, seval, *] at hk <;> with_unfolding_all exact False.elim hk) ?_) | (with_reducible refine WrB.intro _ (by simp -implicitDefEqProofs (maxSteps := 1000000) only [go_sem, seval, *]) (fun h' ho K' hk => by simp -implicitDefEqProofs (maxSteps := 1000000) only [go_sem, seval, *]; exact hk) ?_) | ((with_reducible refine DDraw.auto mo ?_ ?_); kernel_rfl)) <;> simp -implicitDefEqProofs (maxSteps := 1000000) only [go_sem, seval, *]) | (with_reducible refine bi_same ?_))
      exact hke.out _ ⟨by simp -implicitDefEqProofs (maxSteps := 1000000) only [go_sem, seval, *], by simp -implicitDefEqProofs (maxSteps := 1000000) only [go_sem, seval, *], by simp -implicitDefEqProofs (maxSteps := 1000000) only [go_sem, seval, *]⟩
    | succ k =>
      have w5 : (((k + 1 : Nat) : Int) == 0) = false := by simp; omega
      have w6 : IntKind.i64.wrap (((k + 1 : Nat) : Int) - 1) = (k : Int) := by rw [IntWalk.i64_in _ (by omega)]; omega
      rw [stepN, hto] at m5
      clear hr hId hEd hM hlt hto kb' hke
      refine DRound.intro ?_
      simp only [ea.out, eb.out, et.out, ep.out, fold2]
      clear hrec
      simp -implicitDefEqProofs (maxSteps := 1000000) only [go_sem, seval, *]
      repeat' (first | (with_reducible refine at_seq (by with_unfolding_all exact rfl) ?_) | ((with_reducible first | refine at_plain (by with_unfolding_all exact rfl) ?_ | refine at_draw (by with_unfolding_all exact rfl) ?_ | refine at_cond (by with_unfolding_all exact rfl) ?_ | refine at_exit (by with_unfolding_all exact rfl) ?_ | refine at_ret (by with_unfolding_all exact rfl) ?_ | refine at_skip (by with_unfolding_all exact rfl) ?_ | refine at_label (by with_unfolding_all exact rfl) ?_) <;> try simp -implicitDefEqProofs (maxSteps := 1000000) only [go_sem, seval, *]) | (with_reducible first | refine at_block (by with_unfolding_all exact rfl) ?_ | refine at_loop (by with_unfolding_all exact rfl) ?_) | ((first | ((with_reducible refine DDraw.lasts (id := 9) [] [.tmp 6] mo ?_ ?_); kernel_rfl) | ((with_reducible refine NewK.intro_inr fun g hg hn => ?_); try simp only [own_none_iff] at hn) | ((with_reducible refine NewK.intro fun g hg hn => ?_) <;> try simp only [own_none_iff] at hn) | ((with_reducible first | refine GuardB.split (fun hc => ?_) (fun hc => ?_) | refine CondK.split (fun hc => ?_) (fun hc => ?_) | refine PickK.split (fun hc => ?_) (fun hc => ?_) | refine GuardD.split (fun hc => ?_) (fun hc => ?_)) <;> (have hc2 := hc; try simp only [beq_eq_false_iff_ne, beq_iff_eq, ne_eq, bne_iff_ne, bne_eq_false_iff_eq, decide_eq_true_eq, decide_eq_false_iff_not, Bool.not_true, Bool.not_false, Int.not_le, Int.not_lt] at hc2)) | (with_reducible first | refine dop_buildSlice ?_ | refine dop_build ?_) | ((with_reducible refine DDraw.told (id := 9) [1] [.tmp 6, .tmp 5] mo ?_ ?_); kernel_rfl) | (with_reducible first | refine stp_build ?_ | refine stp_buildSlice ?_ | refine stp_store ?_ | refine stp_ns ?_) | (with_reducible refine NsB.intro (fun h' ho K' hk => by simp -implicitDefEqProofs (maxSteps := 1000000) only [go_sem, seval, *] <;> exact hk) ?_) | (with_reducible refine WrB.intro _ (by simp -implicitDefEqProofs (maxSteps := 1000000) only [go_sem, seval, *]) (fun h' ho K' hk => by simp -implicitDefEqProofs (maxSteps := 1000000) only [go_sem, seval, *]; exact hk) (fun h' ho K' hk => by simp -implicitDefEqProofs (maxSteps := 1000000) only [go_sem, seval, *] at hk; exact hk) (fun h' ho hk => by simp -implicitDefEqProofs (maxSteps := 1000000) only [go_sem, seval, *] at hk <;> with_unfolding_all exact False.elim hk) ?_) | (with_reducible refine WrB.intro _ (by simp -implicitDefEqProofs (maxSteps := 1000000) only [go_sem, seval, *]) (fun h' ho K' hk => by simp -implicitDefEqProofs (maxSteps := 1000000) only [go_sem, seval, *]; exact hk) ?_) | ((with_reducible refine DDraw.auto mo ?_ ?_); kernel_rfl)) <;> simp -implicitDefEqProofs (maxSteps := 1000000) only [go_sem, seval, *]) | (with_reducible refine bi_same ?_))
      refine hk.out _ ⟨fun y o e => ?_, by simp -implicitDefEqProofs (maxSteps := 1000000) only [go_sem, seval, *], by simp -implicitDefEqProofs (maxSteps := 1000000) only [go_sem, seval, *], k, by omega, by simp -implicitDefEqProofs (maxSteps := 1000000) only [go_sem, seval, *], by simp -implicitDefEqProofs (maxSteps := 1000000) only [go_sem, seval, *], m5⟩
      have a1 : y ≠ L := by rintro rfl; rw [sL] at e; cases e
      have a2 : y ≠ g5 := by rintro rfl; rw [s5] at e; cases e
      have a3 : y ≠ g6 := by rintro rfl; rw [s6] at e; cases e
      have a4 := own_ne (m0 y o e)
      have a5 := m0 y o e
      simp -implicitDefEqProofs (maxSteps := 1000000) only [go_sem, seval, *]
  · rw [hId]
    refine ⟨fun y o e => ?_, by simp -implicitDefEqProofs (maxSteps := 1000000) only [go_sem, seval, *], by simp -implicitDefEqProofs (maxSteps := 1000000) only [go_sem, seval, *], k0, Nat.le_refl _, by simp -implicitDefEqProofs (maxSteps := 1000000) only [go_sem, seval, *], by simp -implicitDefEqProofs (maxSteps := 1000000) only [go_sem, seval, *], hM.symm⟩
    have q := own_ne (hSH y o e)
    have q2 := hSH y o e
    have q3 : y ≠ L := by rintro rfl; rw [sL] at e; cases e
    have q4 : y ≠ D := by rintro rfl; rw [sD] at e; cases e
    simp -implicitDefEqProofs (maxSteps := 1000000) only [go_sem, seval, *]
  · intro h' hij
    rw [hId] at hij
    obtain ⟨m0, m1, m2, k, hk0, m3, m4, m5⟩ := hij
    rw [stepN_fix reach_all] at m5
    rw [m5] at m4
    have v1 := own_ne m1
    have v2 := own_ne m2
    have v4 := own_ne m4
    simp only [LeftK_app, m1, LeftR_some, en, OutR_none, es]
    refine ⟨(by intro hx; cases hx), ?_⟩
    rw [← hM]
    clear hrec hM hId hEd ea eb et ep er
    simp -implicitDefEqProofs (maxSteps := 1000000) only [go_sem, seval, *]
    repeat' (first | (with_reducible refine at_seq (by with_unfolding_all exact rfl) ?_) | ((with_reducible first | refine at_plain (by with_unfolding_all exact rfl) ?_ | refine at_draw (by with_unfolding_all exact rfl) ?_ | refine at_cond (by with_unfolding_all exact rfl) ?_ | refine at_exit (by with_unfolding_all exact rfl) ?_ | refine at_ret (by with_unfolding_all exact rfl) ?_ | refine at_skip (by with_unfolding_all exact rfl) ?_ | refine at_label (by with_unfolding_all exact rfl) ?_) <;> try simp -implicitDefEqProofs (maxSteps := 1000000) only [go_sem, seval, *]) | (with_reducible first | refine at_block (by with_unfolding_all exact rfl) ?_ | refine at_loop (by with_unfolding_all exact rfl) ?_) | ((first | ((with_reducible refine NewK.intro fun g hg hn => ?_) <;> try simp only [own_none_iff] at hn) | ((with_reducible first | refine GuardB.split (fun hc => ?_) (fun hc => ?_) | refine CondK.split (fun hc => ?_) (fun hc => ?_) | refine PickK.split (fun hc => ?_) (fun hc => ?_) | refine GuardD.split (fun hc => ?_) (fun hc => ?_)) <;> (have hc2 := hc; try simp only [beq_eq_false_iff_ne, beq_iff_eq, ne_eq, bne_iff_ne, bne_eq_false_iff_eq, decide_eq_true_eq, decide_eq_false_iff_not, Bool.not_true, Bool.not_false, Int.not_le, Int.not_lt] at hc2)) | (with_reducible first | refine dop_buildSlice ?_ | refine dop_build ?_) | ((with_reducible refine DDraw.told (id := 9) [1] [.tmp 6, .tmp 5] mo ?_ ?_); kernel_rfl) | (with_reducible first | refine stp_build ?_ | refine stp_buildSlice ?_ | refine stp_store ?_ | refine stp_ns ?_) | (with_reducible refine NsB.intro (fun h' ho K' hk => by simp -implicitDefEqProofs (maxSteps := 1000000) only [go_sem, seval, *] <;> exact hk) ?_) | (with_reducible refine WrB.intro _ (by simp -implicitDefEqProofs (maxSteps := 1000000) only [go_sem, seval, *]) (fun h' ho K' hk => by simp -implicitDefEqProofs (maxSteps := 1000000) only [go_sem, seval, *]; exact hk) (fun h' ho K' hk => by simp -implicitDefEqProofs (maxSteps := 1000000) only [go_sem, seval, *] at hk; exact hk) (fun h' ho hk => by simp -implicitDefEqProofs (maxSteps := 1000000) only [go_sem, seval, *] at hk <;> with_unfolding_all exact False.elim hk) ?_) | (with_reducible refine WrB.intro _ (by simp -implicitDefEqProofs (maxSteps := 1000000) only [go_sem, seval, *]) (fun h' ho K' hk => by simp -implicitDefEqProofs (maxSteps := 1000000) only [go_sem, seval, *]; exact hk) ?_) | ((with_reducible refine DDraw.auto mo ?_ ?_); kernel_rfl)) <;> simp -implicitDefEqProofs (maxSteps := 1000000) only [go_sem, seval, *]) | (with_reducible refine bi_same ?_))
  · intro fr h' hlt hfx hij
    rw [hId] at hij
    obtain ⟨m0, m1, m2, k, hk0, m3, m4, m5⟩ := hij
    rw [hfx] at m4 m5
    rw [stepN_fix hfx] at m5
    rw [m5] at m4
    have v1 := own_ne m1
    have v2 := own_ne m2
    have v4 := own_ne m4
    simp only [LeftK_app, m1, LeftR_some, en, OutR_none, es]
    refine ⟨(by intro hx; cases hx), ?_⟩
    rw [← hM]
    clear hrec hM hId hEd ea eb et ep er
    simp -implicitDefEqProofs (maxSteps := 1000000) only [go_sem, seval, *]
    repeat' (first | (with_reducible refine at_seq (by with_unfolding_all exact rfl) ?_) | ((with_reducible first | refine at_plain (by with_unfolding_all exact rfl) ?_ | refine at_draw (by with_unfolding_all exact rfl) ?_ | refine at_cond (by with_unfolding_all exact rfl) ?_ | refine at_exit (by with_unfolding_all exact rfl) ?_ | refine at_ret (by with_unfolding_all exact rfl) ?_ | refine at_skip (by with_unfolding_all exact rfl) ?_ | refine at_label (by with_unfolding_all exact rfl) ?_) <;> try simp -implicitDefEqProofs (maxSteps := 1000000) only [go_sem, seval, *]) | (with_reducible first | refine at_block (by with_unfolding_all exact rfl) ?_ | refine at_loop (by with_unfolding_all exact rfl) ?_) | ((first | ((with_reducible refine NewK.intro fun g hg hn => ?_) <;> try simp only [own_none_iff] at hn) | ((with_reducible first | refine GuardB.split (fun hc => ?_) (fun hc => ?_) | refine CondK.split (fun hc => ?_) (fun hc => ?_) | refine PickK.split (fun hc => ?_) (fun hc => ?_) | refine GuardD.split (fun hc => ?_) (fun hc => ?_)) <;> (have hc2 := hc; try simp only [beq_eq_false_iff_ne, beq_iff_eq, ne_eq, bne_iff_ne, bne_eq_false_iff_eq, decide_eq_true_eq, decide_eq_false_iff_not, Bool.not_true, Bool.not_false, Int.not_le, Int.not_lt] at hc2)) | (with_reducible first | refine dop_buildSlice ?_ | refine dop_build ?_) | ((with_reducible refine DDraw.told (id := 9) [1] [.tmp 6, .tmp 5] mo ?_ ?_); kernel_rfl) | (with_reducible first | refine stp_build ?_ | refine stp_buildSlice ?_ | refine stp_store ?_ | refine stp_ns ?_) | (with_reducible refine NsB.intro (fun h' ho K' hk => by simp -implicitDefEqProofs (maxSteps := 1000000) only [go_sem, seval, *] <;> exact hk) ?_) | (with_reducible refine WrB.intro _ (by simp -implicitDefEqProofs (maxSteps := 1000000) only [go_sem, seval, *]) (fun h' ho K' hk => by simp -implicitDefEqProofs (maxSteps := 1000000) only [go_sem, seval, *]; exact hk) (fun h' ho K' hk => by simp -implicitDefEqProofs (maxSteps := 1000000) only [go_sem, seval, *] at hk; exact hk) (fun h' ho hk => by simp -implicitDefEqProofs (maxSteps := 1000000) only [go_sem, seval, *] at hk <;> with_unfolding_all exact False.elim hk) ?_) | (with_reducible refine WrB.intro _ (by simp -implicitDefEqProofs (maxSteps := 1000000) only [go_sem, seval, *]) (fun h' ho K' hk => by simp -implicitDefEqProofs (maxSteps := 1000000) only [go_sem, seval, *]; exact hk) ?_) | ((with_reducible refine DDraw.auto mo ?_ ?_); kernel_rfl)) <;> simp -implicitDefEqProofs (maxSteps := 1000000) only [go_sem, seval, *]) | (with_reducible refine bi_same ?_))
  · intro h' hE'
    rw [hEd] at hE'
    obtain ⟨m1, m2, m4⟩ := hE'
    have v1 := own_ne m1
    have v2 := own_ne m2
    have v4 := own_ne m4
    simp only [LeftK_app, m1, LeftR_some, OutR_exit]
    refine ⟨(by intro hx; cases hx), ?_⟩
    rw [← hM]
    clear hrec hM hId hEd ea eb et ep er
    simp -implicitDefEqProofs (maxSteps := 1000000) only [go_sem, seval, *]
    repeat' (first | (with_reducible refine at_seq (by with_unfolding_all exact rfl) ?_) | ((with_reducible first | refine at_plain (by with_unfolding_all exact rfl) ?_ | refine at_draw (by with_unfolding_all exact rfl) ?_ | refine at_cond (by with_unfolding_all exact rfl) ?_ | refine at_exit (by with_unfolding_all exact rfl) ?_ | refine at_ret (by with_unfolding_all exact rfl) ?_ | refine at_skip (by with_unfolding_all exact rfl) ?_ | refine at_label (by with_unfolding_all exact rfl) ?_) <;> try simp -implicitDefEqProofs (maxSteps := 1000000) only [go_sem, seval, *]) | (with_reducible first | refine at_block (by with_unfolding_all exact rfl) ?_ | refine at_loop (by with_unfolding_all exact rfl) ?_) | ((first | ((with_reducible refine NewK.intro fun g hg hn => ?_) <;> try simp only [own_none_iff] at hn) | ((with_reducible first | refine GuardB.split (fun hc => ?_) (fun hc => ?_) | refine CondK.split (fun hc => ?_) (fun hc => ?_) | refine PickK.split (fun hc => ?_) (fun hc => ?_) | refine GuardD.split (fun hc => ?_) (fun hc => ?_)) <;> (have hc2 := hc; try simp only [beq_eq_false_iff_ne, beq_iff_eq, ne_eq, bne_iff_ne, bne_eq_false_iff_eq, decide_eq_true_eq, decide_eq_false_iff_not, Bool.not_true, Bool.not_false, Int.not_le, Int.not_lt] at hc2)) | (with_reducible first | refine dop_buildSlice ?_ | refine dop_build ?_) | ((with_reducible refine DDraw.told (id := 9) [1] [.tmp 6, .tmp 5] mo ?_ ?_); kernel_rfl) | (with_reducible first | refine stp_build ?_ | refine stp_buildSlice ?_ | refine stp_store ?_ | refine stp_ns ?_) | (with_reducible refine NsB.intro (fun h' ho K' hk => by simp -implicitDefEqProofs (maxSteps := 1000000) only [go_sem, seval, *] <;> exact hk) ?_) | (with_reducible refine WrB.intro _ (by simp -implicitDefEqProofs (maxSteps := 1000000) only [go_sem, seval, *]) (fun h' ho K' hk => by simp -implicitDefEqProofs (maxSteps := 1000000) only [go_sem, seval, *]; exact hk) (fun h' ho K' hk => by simp -implicitDefEqProofs (maxSteps := 1000000) only [go_sem, seval, *] at hk; exact hk) (fun h' ho hk => by simp -implicitDefEqProofs (maxSteps := 1000000) only [go_sem, seval, *] at hk <;> with_unfolding_all exact False.elim hk) ?_) | (with_reducible refine WrB.intro _ (by simp -implicitDefEqProofs (maxSteps := 1000000) only [go_sem, seval, *]) (fun h' ho K' hk => by simp -implicitDefEqProofs (maxSteps := 1000000) only [go_sem, seval, *]; exact hk) ?_) | ((with_reducible refine DDraw.auto mo ?_ ?_); kernel_rfl)) <;> simp -implicitDefEqProofs (maxSteps := 1000000) only [go_sem, seval, *]) | (with_reducible refine bi_same ?_))
set_option maxHeartbeats 4000000 in
theorem Most_E (ro : Addr → Option Value) (dn : Bool) (s0 s1 c0 c1 : Int) (pw : Option Addr) (nw cw : Nat) (ws : List (Int × Int)) (po : Option Addr) (no co : Nat) (os : List Ord) (k : Int) (hx : RdS ro pw nw 2 (ws.flatMap spC)) (hb : Hold (nw < 9223372036854775808)) (hy : RdS ro po no 4 (os.flatMap oC)) (hb' : Hold (no < 9223372036854775808)) (he : chkV s0 s1 c0 c1 ws os ≠ 0) :
    Cr Try.prog 30 #[.agg #[.bool dn, .int .i64 s0, .int .i64 s1, .int .i64 c0, .int .i64 c1, .slice pw nw cw], .slice po no co, .int .i64 k] ro (.tuple #[.int .i64 0, .int .i64 (chkV s0 s1 c0 c1 ws os)]) := by
  refine Cr.ofD fun F hF hT => ?_
  subst hF
  replace hx := Hold.mk hx
  replace hy := Hold.mk hy
  have hop : Hold (∀ (h : Hp) (K : Value → Hp → Prop), K (.tuple #[.pointer none, .int .i64 (chkV s0 s1 c0 c1 ws os)]) h → DCall Try.prog F 63 #[.agg #[.bool dn, .int .i64 s0, .int .i64 s1, .int .i64 c0, .int .i64 c1, .slice pw nw cw], .slice po no co] h K) := ⟨fun h K hK => open_E F h K dn s0 s1 c0 c1 pw nw cw ws po no co os (hx.out.mono fun a u e => Hp.cell_ro e) hb (hy.out.mono fun a u e => Hp.cell_ro e) hb' he hK⟩
  have q1 : (chkV s0 s1 c0 c1 ws os != 0) = true := by simpa using he
  generalize chkV s0 s1 c0 c1 ws os = e at *
  clear hx hy he
  (refine DCall.inlP (l := _) Try.func30 Try.ntmps30 rfl rfl (by simp only [seval, List.length_cons, List.length_nil]) (by simp only [seval, List.length_cons, List.length_nil]) ?_; simp only [Try.results30, List.map_cons, List.map_nil])
  repeat' (first | (with_reducible refine at_seq (by with_unfolding_all exact rfl) ?_) | ((with_reducible first | refine at_plain (by with_unfolding_all exact rfl) ?_ | refine at_draw (by with_unfolding_all exact rfl) ?_ | refine at_cond (by with_unfolding_all exact rfl) ?_ | refine at_exit (by with_unfolding_all exact rfl) ?_ | refine at_ret (by with_unfolding_all exact rfl) ?_ | refine at_skip (by with_unfolding_all exact rfl) ?_ | refine at_label (by with_unfolding_all exact rfl) ?_) <;> try simp -implicitDefEqProofs (maxSteps := 1000000) only [go_sem, seval, *]) | (with_reducible first | refine at_block (by with_unfolding_all exact rfl) ?_ | refine at_loop (by with_unfolding_all exact rfl) ?_) | ((first | ((with_reducible refine NewK.intro fun g hg hn => ?_) <;> try simp only [own_none_iff] at hn) | ((with_reducible first | refine GuardB.split (fun hc => ?_) (fun hc => ?_) | refine CondK.split (fun hc => ?_) (fun hc => ?_) | refine PickK.split (fun hc => ?_) (fun hc => ?_) | refine GuardD.split (fun hc => ?_) (fun hc => ?_)) <;> (have hc2 := hc; try simp only [beq_eq_false_iff_ne, beq_iff_eq, ne_eq, bne_iff_ne, bne_eq_false_iff_eq, decide_eq_true_eq, decide_eq_false_iff_not, Bool.not_true, Bool.not_false, Int.not_le, Int.not_lt] at hc2)) | (with_reducible first | refine dop_buildSlice ?_ | refine dop_build ?_) | ((with_reducible refine DDraw.told (id := 9) [1] [.tmp 6, .tmp 5] mo ?_ ?_); kernel_rfl) | (with_reducible first | refine stp_build ?_ | refine stp_buildSlice ?_ | refine stp_store ?_ | refine stp_ns ?_) | (with_reducible refine NsB.intro (fun h' ho K' hk => by simp -implicitDefEqProofs (maxSteps := 1000000) only [go_sem, seval, *] <;> exact hk) ?_) | (with_reducible refine WrB.intro _ (by simp -implicitDefEqProofs (maxSteps := 1000000) only [go_sem, seval, *]) (fun h' ho K' hk => by simp -implicitDefEqProofs (maxSteps := 1000000) only [go_sem, seval, *]; exact hk) (fun h' ho K' hk => by simp -implicitDefEqProofs (maxSteps := 1000000) only [go_sem, seval, *] at hk; exact hk) (fun h' ho hk => by simp -implicitDefEqProofs (maxSteps := 1000000) only [go_sem, seval, *] at hk <;> with_unfolding_all exact False.elim hk) ?_) | (with_reducible refine WrB.intro _ (by simp -implicitDefEqProofs (maxSteps := 1000000) only [go_sem, seval, *]) (fun h' ho K' hk => by simp -implicitDefEqProofs (maxSteps := 1000000) only [go_sem, seval, *]; exact hk) ?_) | ((with_reducible refine DDraw.auto mo ?_ ?_); kernel_rfl)) <;> simp -implicitDefEqProofs (maxSteps := 1000000) only [go_sem, seval, *]) | (with_reducible refine bi_same ?_))
  refine hop.out _ _ ?_
  clear hop
  simp -implicitDefEqProofs (maxSteps := 1000000) only [go_sem, seval, *]
  repeat' (first | (with_reducible refine at_seq (by with_unfolding_all exact rfl) ?_) | ((with_reducible first | refine at_plain (by with_unfolding_all exact rfl) ?_ | refine at_draw (by with_unfolding_all exact rfl) ?_ | refine at_cond (by with_unfolding_all exact rfl) ?_ | refine at_exit (by with_unfolding_all exact rfl) ?_ | refine at_ret (by with_unfolding_all exact rfl) ?_ | refine at_skip (by with_unfolding_all exact rfl) ?_ | refine at_label (by with_unfolding_all exact rfl) ?_) <;> try simp -implicitDefEqProofs (maxSteps := 1000000) only [go_sem, seval, *]) | (with_reducible first | refine at_block (by with_unfolding_all exact rfl) ?_ | refine at_loop (by with_unfolding_all exact rfl) ?_) | ((first | ((with_reducible refine NewK.intro fun g hg hn => ?_) <;> try simp only [own_none_iff] at hn) | ((with_reducible first | refine GuardB.split (fun hc => ?_) (fun hc => ?_) | refine CondK.split (fun hc => ?_) (fun hc => ?_) | refine PickK.split (fun hc => ?_) (fun hc => ?_) | refine GuardD.split (fun hc => ?_) (fun hc => ?_)) <;> (have hc2 := hc; try simp only [beq_eq_false_iff_ne, beq_iff_eq, ne_eq, bne_iff_ne, bne_eq_false_iff_eq, decide_eq_true_eq, decide_eq_false_iff_not, Bool.not_true, Bool.not_false, Int.not_le, Int.not_lt] at hc2)) | (with_reducible first | refine dop_buildSlice ?_ | refine dop_build ?_) | ((with_reducible refine DDraw.told (id := 9) [1] [.tmp 6, .tmp 5] mo ?_ ?_); kernel_rfl) | (with_reducible first | refine stp_build ?_ | refine stp_buildSlice ?_ | refine stp_store ?_ | refine stp_ns ?_) | (with_reducible refine NsB.intro (fun h' ho K' hk => by simp -implicitDefEqProofs (maxSteps := 1000000) only [go_sem, seval, *] <;> exact hk) ?_) | (with_reducible refine WrB.intro _ (by simp -implicitDefEqProofs (maxSteps := 1000000) only [go_sem, seval, *]) (fun h' ho K' hk => by simp -implicitDefEqProofs (maxSteps := 1000000) only [go_sem, seval, *]; exact hk) (fun h' ho K' hk => by simp -implicitDefEqProofs (maxSteps := 1000000) only [go_sem, seval, *] at hk; exact hk) (fun h' ho hk => by simp -implicitDefEqProofs (maxSteps := 1000000) only [go_sem, seval, *] at hk <;> with_unfolding_all exact False.elim hk) ?_) | (with_reducible refine WrB.intro _ (by simp -implicitDefEqProofs (maxSteps := 1000000) only [go_sem, seval, *]) (fun h' ho K' hk => by simp -implicitDefEqProofs (maxSteps := 1000000) only [go_sem, seval, *]; exact hk) ?_) | ((with_reducible refine DDraw.auto mo ?_ ?_); kernel_rfl)) <;> simp -implicitDefEqProofs (maxSteps := 1000000) only [go_sem, seval, *]) | (with_reducible refine bi_same ?_))
set_option maxHeartbeats 4000000 in
theorem Most_R (ro : Addr → Option Value) (dn : Bool) (s0 s1 c0 c1 : Int) (pw : Option Addr) (nw cw : Nat) (ws : List (Int × Int)) (po : Option Addr) (no co : Nat) (os : List Ord) (k : Int) (hx : RdS ro pw nw 2 (ws.flatMap spC)) (hb : Hold (nw < 9223372036854775808)) (hy : RdS ro po no 4 (os.flatMap oC)) (hb' : Hold (no < 9223372036854775808)) (he : chkV s0 s1 c0 c1 ws os = 0) (hk : ¬ (0 ≤ k ∧ k ≤ 1000)) :
    Cr Try.prog 30 #[.agg #[.bool dn, .int .i64 s0, .int .i64 s1, .int .i64 c0, .int .i64 c1, .slice pw nw cw], .slice po no co, .int .i64 k] ro (.tuple #[.int .i64 0, .int .i64 3]) := by
  refine Cr.ofD fun F hF hT => ?_
  subst hF
  have hop : Hold (∀ (h : Hp) (K : Value → Hp → Prop), (∀ gs po' co' pf cf h', (∀ b o, h'.own b = some o → h.own b = none ∧ F.w0.heap.size ≤ b) → Hold (ShopR (h'.cell? F) gs (sgnA dn s0 s1) (sgnB dn s0 s1) (sgnA dn c0 c1) (sgnB dn c0 c1) pw nw cw po' no co' pf cf dn ws (ordT dn os)) → K (.tuple #[.pointer (some ⟨gs, 0, none⟩), .int .i64 0]) (joinH h h')) → DCall Try.prog F 63 #[.agg #[.bool dn, .int .i64 s0, .int .i64 s1, .int .i64 c0, .int .i64 c1, .slice pw nw cw], .slice po no co] h K) := ⟨fun h K hK => open_N F h K dn s0 s1 c0 c1 pw nw cw ws po no co os hx hb hy hb' he hK⟩
  have hb1 : (decide (0 ≤ k) && decide (k ≤ 1000)) = false := by
    rw [Bool.eq_false_iff]
    simp only [ne_eq, Bool.and_eq_true, decide_eq_true_eq]
    omega
  clear hx hy he hk
  (refine DCall.inlP (l := _) Try.func30 Try.ntmps30 rfl rfl (by simp only [seval, List.length_cons, List.length_nil]) (by simp only [seval, List.length_cons, List.length_nil]) ?_; simp only [Try.results30, List.map_cons, List.map_nil])
  repeat' (first | (with_reducible refine at_seq (by with_unfolding_all exact rfl) ?_) | ((with_reducible first | refine at_plain (by with_unfolding_all exact rfl) ?_ | refine at_draw (by with_unfolding_all exact rfl) ?_ | refine at_cond (by with_unfolding_all exact rfl) ?_ | refine at_exit (by with_unfolding_all exact rfl) ?_ | refine at_ret (by with_unfolding_all exact rfl) ?_ | refine at_skip (by with_unfolding_all exact rfl) ?_ | refine at_label (by with_unfolding_all exact rfl) ?_) <;> try simp -implicitDefEqProofs (maxSteps := 1000000) only [go_sem, seval, *]) | (with_reducible first | refine at_block (by with_unfolding_all exact rfl) ?_ | refine at_loop (by with_unfolding_all exact rfl) ?_) | ((first | ((with_reducible refine NewK.intro fun g hg hn => ?_) <;> try simp only [own_none_iff] at hn) | ((with_reducible first | refine GuardB.split (fun hc => ?_) (fun hc => ?_) | refine CondK.split (fun hc => ?_) (fun hc => ?_) | refine PickK.split (fun hc => ?_) (fun hc => ?_) | refine GuardD.split (fun hc => ?_) (fun hc => ?_)) <;> (have hc2 := hc; try simp only [beq_eq_false_iff_ne, beq_iff_eq, ne_eq, bne_iff_ne, bne_eq_false_iff_eq, decide_eq_true_eq, decide_eq_false_iff_not, Bool.not_true, Bool.not_false, Int.not_le, Int.not_lt] at hc2)) | (with_reducible first | refine dop_buildSlice ?_ | refine dop_build ?_) | ((with_reducible refine DDraw.told (id := 9) [1] [.tmp 6, .tmp 5] mo ?_ ?_); kernel_rfl) | (with_reducible first | refine stp_build ?_ | refine stp_buildSlice ?_ | refine stp_store ?_ | refine stp_ns ?_) | (with_reducible refine NsB.intro (fun h' ho K' hk => by simp -implicitDefEqProofs (maxSteps := 1000000) only [go_sem, seval, *] <;> exact hk) ?_) | (with_reducible refine WrB.intro _ (by simp -implicitDefEqProofs (maxSteps := 1000000) only [go_sem, seval, *]) (fun h' ho K' hk => by simp -implicitDefEqProofs (maxSteps := 1000000) only [go_sem, seval, *]; exact hk) (fun h' ho K' hk => by simp -implicitDefEqProofs (maxSteps := 1000000) only [go_sem, seval, *] at hk; exact hk) (fun h' ho hk => by simp -implicitDefEqProofs (maxSteps := 1000000) only [go_sem, seval, *] at hk <;> with_unfolding_all exact False.elim hk) ?_) | (with_reducible refine WrB.intro _ (by simp -implicitDefEqProofs (maxSteps := 1000000) only [go_sem, seval, *]) (fun h' ho K' hk => by simp -implicitDefEqProofs (maxSteps := 1000000) only [go_sem, seval, *]; exact hk) ?_) | ((with_reducible refine DDraw.auto mo ?_ ?_); kernel_rfl)) <;> simp -implicitDefEqProofs (maxSteps := 1000000) only [go_sem, seval, *]) | (with_reducible refine bi_same ?_))
  rename_i g3 hg3 hn3 g5 hg5 hn5
  generalize hgg : g = g6 at *
  clear hgg
  refine hop.out _ _ fun gs po' co' pf cf S hd hS => ?_
  clear hop
  generalize hH : joinH _ S = H
  have hS0 : H = _ := hH.symm
  have u5 : H.own g5 = some (.cells #[.int .i64 k] 3) := by rw [hS0]; exact join_l (by simp -implicitDefEqProofs (maxSteps := 1000000) only [go_sem, seval, *])
  have u6 : H.own g6 = some (.cells #[.int .i64 0] 3) := by rw [hS0]; exact join_l (by simp -implicitDefEqProofs (maxSteps := 1000000) only [go_sem, seval, *])
  have n56 : g5 ≠ g6 ∧ g6 ≠ g5 := ⟨hn.2.1, hn.1⟩
  clear hS0 hH hd hn hn3 hn5 hS
  have v5 := own_ne u5
  have v6 := own_ne u6
  simp -implicitDefEqProofs (maxSteps := 1000000) only [go_sem, seval, *]
  repeat' (first | (with_reducible refine at_seq (by with_unfolding_all exact rfl) ?_) | ((with_reducible first | refine at_plain (by with_unfolding_all exact rfl) ?_ | refine at_draw (by with_unfolding_all exact rfl) ?_ | refine at_cond (by with_unfolding_all exact rfl) ?_ | refine at_exit (by with_unfolding_all exact rfl) ?_ | refine at_ret (by with_unfolding_all exact rfl) ?_ | refine at_skip (by with_unfolding_all exact rfl) ?_ | refine at_label (by with_unfolding_all exact rfl) ?_) <;> try simp -implicitDefEqProofs (maxSteps := 1000000) only [go_sem, seval, *]) | (with_reducible first | refine at_block (by with_unfolding_all exact rfl) ?_ | refine at_loop (by with_unfolding_all exact rfl) ?_) | ((first | ((with_reducible refine NewK.intro fun g hg hn => ?_) <;> try simp only [own_none_iff] at hn) | ((with_reducible first | refine GuardB.split (fun hc => ?_) (fun hc => ?_) | refine CondK.split (fun hc => ?_) (fun hc => ?_) | refine PickK.split (fun hc => ?_) (fun hc => ?_) | refine GuardD.split (fun hc => ?_) (fun hc => ?_)) <;> (have hc2 := hc; try simp only [beq_eq_false_iff_ne, beq_iff_eq, ne_eq, bne_iff_ne, bne_eq_false_iff_eq, decide_eq_true_eq, decide_eq_false_iff_not, Bool.not_true, Bool.not_false, Int.not_le, Int.not_lt] at hc2)) | (with_reducible first | refine dop_buildSlice ?_ | refine dop_build ?_) | ((with_reducible refine Cr.call (f := 60) (withinB_ok _ _ _ _ _ _ _ (by simp -implicitDefEqProofs (maxSteps := 1000000) only [go_sem, seval, *]) ⟨by decide⟩) ?_)) | (with_reducible refine CallV.of (f := 60) (withinB_ok _ _ _ _ _ _ _ (by simp -implicitDefEqProofs (maxSteps := 1000000) only [go_sem, seval, *]) ⟨by decide⟩) ni60 ?_) | ((with_reducible refine DDraw.told (id := 9) [1] [.tmp 6, .tmp 5] mo ?_ ?_); kernel_rfl) | (with_reducible first | refine stp_build ?_ | refine stp_buildSlice ?_ | refine stp_store ?_ | refine stp_ns ?_) | (with_reducible refine NsB.intro (fun h' ho K' hk => by simp -implicitDefEqProofs (maxSteps := 1000000) only [go_sem, seval, *] <;> exact hk) ?_) | (with_reducible refine WrB.intro _ (by simp -implicitDefEqProofs (maxSteps := 1000000) only [go_sem, seval, *]) (fun h' ho K' hk => by simp -implicitDefEqProofs (maxSteps := 1000000) only [go_sem, seval, *]; exact hk) (fun h' ho K' hk => by simp -implicitDefEqProofs (maxSteps := 1000000) only [go_sem, seval, *] at hk; exact hk) (fun h' ho hk => by simp -implicitDefEqProofs (maxSteps := 1000000) only [go_sem, seval, *] at hk <;> with_unfolding_all exact False.elim hk) ?_) | (with_reducible refine WrB.intro _ (by simp -implicitDefEqProofs (maxSteps := 1000000) only [go_sem, seval, *]) (fun h' ho K' hk => by simp -implicitDefEqProofs (maxSteps := 1000000) only [go_sem, seval, *]; exact hk) ?_) | ((with_reducible refine DDraw.auto mo ?_ ?_); kernel_rfl)) <;> simp -implicitDefEqProofs (maxSteps := 1000000) only [go_sem, seval, *]) | (with_reducible refine bi_same ?_))

end Go.Proofs.Ytlbpfmnobapidaa
