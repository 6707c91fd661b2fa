/-
  Walks. Conditions: none.
-/
import Derived.Test.YtlbpfmnobapidaaD15
set_option linter.unusedVariables false
set_option linter.unusedSimpArgs false
namespace Go.Proofs.Ytlbpfmnobapidaa
open Go.RowKit Go.SL
set_option maxHeartbeats 1000000
set_option maxRecDepth 1000000
attribute [local go_sem] fl_getD fl_get fl_set lk_def st_def gL_nil gL_zero gL_succ sL_nil_zero sL_nil_succ sL_zero sL_succ Option.getD_none FgK_app onlyL_nil onlyL_none onlyL_some setO_some toB_bool toB_undef yl_def
attribute [local go_sem high] GuardK_yl GuardL_yl
attribute [local go_sem] initL_one initL_cons lastL_one lastL_cons LastK_app fin_round Fr.inr_w0 Fr.inr_ro Fr.inr_M cell_inr LoopO_some YieldK_some RoundQ_normal RoundQ_ret RoundQ_exit EndR_none EndR_some BegK_app BegR_some OutR_none OutR_ret OutR_exit LeftR_some LeftK_app
attribute [local go_sem] i64w
attribute [local go_sem] dwp_eqGuardE dwp_eqGuardN rval_eqGuardE rval_eqGuardN
attribute [local go_sem] add_none recL_state recL_pending
theorem fldSp {F : Fr} {S : Hp} {a b : Value} : rval Try.prog F (Instr.field 23 (.agg #[a, b]) 0) S = some a := by
  simp [Instr.field, part, rval_bind', rval_pure', RB_some, rval_un Try.underlying23, rval_agg Try.isAgg3, asAgg]
attribute [local go_sem] fldSp
theorem inf_set : okInfo Try.prog 51 2 16 = true := by kernel_rfl
/-- The target of one setting. -/
def aimV (dn : Bool) (s0 s1 c0 c1 : Int) (ws : List (Int × Int)) (os : List Ord) (fr : Nat) : Int := (backV dn (tgF s0 s1 c0 c1 ws os fr ((reachV s0 s1 c0 c1 ws os fr : Nat) : Int))).1
/-- The plan, from a piece on. -/
def planF (dn : Bool) (s0 s1 c0 c1 : Int) (ws : List (Int × Int)) (os : List Ord) : Nat → Nat → List (Int × Int)
  | 0, _ => []
  | f + 1, fr => if fr < allN os ∧ fr < reachV s0 s1 c0 c1 ws os fr then ((fr : Int), aimV dn s0 s1 c0 c1 ws os fr) :: planF dn s0 s1 c0 c1 ws os f (reachV s0 s1 c0 c1 ws os fr) else []
theorem planF_fuel (dn : Bool) (s0 s1 c0 c1 : Int) (ws : List (Int × Int)) (os : List Ord) : ∀ (f g fr : Nat), allN os - fr ≤ f → allN os - fr ≤ g → planF dn s0 s1 c0 c1 ws os f fr = planF dn s0 s1 c0 c1 ws os g fr
  | 0, 0, _, _, _ => rfl
  | 0, g + 1, fr, h, _ => by rw [planF, planF, if_neg (by omega)]
  | f + 1, 0, fr, _, h => by rw [planF, planF, if_neg (by omega)]
  | f + 1, g + 1, fr, h1, h2 => by
    rw [planF, planF]
    split
    · rename_i q
      rw [planF_fuel dn s0 s1 c0 c1 ws os f g (reachV s0 s1 c0 c1 ws os fr) (by omega) (by omega)]
    · rfl
theorem stepN_fuel (s0 s1 c0 c1 : Int) (ws : List (Int × Int)) (os : List Ord) : ∀ (f g fr : Nat), fr ≤ allN os → allN os - fr ≤ f → allN os - fr ≤ g → stepN s0 s1 c0 c1 ws os f fr = stepN s0 s1 c0 c1 ws os g fr
  | 0, 0, _, _, _, _ => rfl
  | 0, g + 1, fr, h0, h, _ => by
    obtain rfl : fr = allN os := by omega
    rw [stepN_fix reach_all, stepN_fix reach_all]
  | f + 1, 0, fr, h0, _, h => by
    obtain rfl : fr = allN os := by omega
    rw [stepN_fix reach_all, stepN_fix reach_all]
  | f + 1, g + 1, fr, h0, h1, h2 => by
    have rb := reachV_bd (s0 := s0) (s1 := s1) (c0 := c0) (c1 := c1) (ws := ws) (os := os) h0
    by_cases e : reachV s0 s1 c0 c1 ws os fr = fr
    · rw [stepN_fix e, stepN_fix e]
    · rw [stepN, stepN]
      exact stepN_fuel s0 s1 c0 c1 ws os f g (reachV s0 s1 c0 c1 ws os fr) rb.2 (by omega) (by omega)
/-- The whole plan, and how far it goes. -/
def planV (dn : Bool) (s0 s1 c0 c1 : Int) (ws : List (Int × Int)) (os : List Ord) : List (Int × Int) := planF dn s0 s1 c0 c1 ws os (allN os) 0
def endV (s0 s1 c0 c1 : Int) (ws : List (Int × Int)) (os : List Ord) : Nat := stepN s0 s1 c0 c1 ws os (allN os) 0
theorem one_set (x y : Int) : ∀ z ∈ [Value.int .i64 x, Value.int .i64 y], notAgg z = true := by
  intro z hz
  simp only [List.mem_cons, List.not_mem_nil, or_false] at hz
  rcases hz with rfl | rfl <;> rfl
set_option maxHeartbeats 8000000 in
theorem Plan_D (F : Fr) (hT : F.top = true) (dn : Bool) (s0 s1 c0 c1 : Int) (pw : Option Addr) (nw cw : Nat) (ws : List (Int × Int)) (po : Option Addr) (no co : Nat) (os : List Ord) (hx : RdS F.ro pw nw 2 (ws.flatMap spC)) (hb : Hold (nw < 9223372036854775808)) (hy : RdS F.ro po no 4 (os.flatMap oC)) (hb' : Hold (no < 9223372036854775808)) (he : chkV s0 s1 c0 c1 ws os = 0) (K : Value → Hp → Prop)
    (kA : Hold (endV (sgnA dn s0 s1) (sgnB dn s0 s1) (sgnA dn c0 c1) (sgnB dn c0 c1) ws (ordT dn os) = allN os → ∀ v h', Own F h' 51 2 v (planV dn (sgnA dn s0 s1) (sgnB dn s0 s1) (sgnA dn c0 c1) (sgnB dn c0 c1) ws (ordT dn os)).length ((planV dn (sgnA dn s0 s1) (sgnB dn s0 s1) (sgnA dn c0 c1) (sgnB dn c0 c1) ws (ordT dn os)).flatMap spC) → K (.tuple #[v, .int .i64 0]) h'))
    (kB : Hold (endV (sgnA dn s0 s1) (sgnB dn s0 s1) (sgnA dn c0 c1) (sgnB dn c0 c1) ws (ordT dn os) ≠ allN os → ∀ h', K (.tuple #[.slice none 0 0, .int .i64 7]) h')) :
    DCall Try.prog F 26 #[.agg #[.bool dn, .int .i64 s0, .int .i64 s1, .int .i64 c0, .int .i64 c1, .slice pw nw cw], .slice po no co] Hp.none_ K := by
  have hl1 := hx.count spC_len (by decide)
  have hl2 := hy.count oC_len (by decide)
  have sv0 := chk_shop he
  rw [hl1, hl2] at sv0
  have sv := Hold.mk (shop_turn dn sv0)
  have e0 : (allN (ordT dn os)) = allN os := ordT_all dn os
  have hop : Hold (∀ (h : Hp) (K : Value → Hp → Prop), (∀ gs po' co' pf cf h', (∀ b o, h'.own b = some o → h.own b = none ∧ F.w0.heap.size ≤ b) → Hold (ShopR (h'.cell? F) gs (sgnA dn s0 s1) (sgnB dn s0 s1) (sgnA dn c0 c1) (sgnB dn c0 c1) pw nw cw po' no co' pf cf dn ws (ordT dn os)) → K (.tuple #[.pointer (some ⟨gs, 0, none⟩), .int .i64 0]) (joinH h h')) → DCall Try.prog F 63 #[.agg #[.bool dn, .int .i64 s0, .int .i64 s1, .int .i64 c0, .int .i64 c1, .slice pw nw cw], .slice po no co] h K) := ⟨fun h K hK => open_N F h K dn s0 s1 c0 c1 pw nw cw ws po no co os hx hb hy hb' he hK⟩
  clear hl1 hl2 sv0 hx hy he
  rw [← e0] at kA kB
  clear e0
  generalize (ordT dn os) = ox at *
  generalize sgnA dn s0 s1 = a0 at *
  generalize sgnB dn s0 s1 = a1 at *
  generalize sgnA dn c0 c1 = d0 at *
  generalize sgnB dn c0 c1 = d1 at *
  (refine DCall.inlP (l := _) Try.func26 Try.ntmps26 rfl rfl (by simp only [seval, List.length_cons, List.length_nil]) (by simp only [seval, List.length_cons, List.length_nil]) ?_; simp only [Try.results26, List.map_cons, List.map_nil])
  repeat' (first | (with_reducible refine at_seq (by with_unfolding_all exact rfl) ?_) | ((with_reducible first | refine at_plain (by with_unfolding_all exact rfl) ?_ | refine at_draw (by with_unfolding_all exact rfl) ?_ | refine at_cond (by with_unfolding_all exact rfl) ?_ | refine at_exit (by with_unfolding_all exact rfl) ?_ | refine at_ret (by with_unfolding_all exact rfl) ?_ | refine at_skip (by with_unfolding_all exact rfl) ?_ | refine at_label (by with_unfolding_all exact rfl) ?_) <;> try simp -implicitDefEqProofs (maxSteps := 1000000) only [go_sem, seval, *]) | (with_reducible first | refine at_block (by with_unfolding_all exact rfl) ?_ | refine at_loop (by with_unfolding_all exact rfl) ?_) | ((first | ((with_reducible refine NewK.intro fun g hg hn => ?_) <;> try simp only [own_none_iff] at hn) | ((with_reducible first | refine GuardB.split (fun hc => ?_) (fun hc => ?_) | refine CondK.split (fun hc => ?_) (fun hc => ?_) | refine PickK.split (fun hc => ?_) (fun hc => ?_) | refine GuardD.split (fun hc => ?_) (fun hc => ?_)) <;> (have hc2 := hc; try simp only [beq_eq_false_iff_ne, beq_iff_eq, ne_eq, bne_iff_ne, bne_eq_false_iff_eq, decide_eq_true_eq, decide_eq_false_iff_not, Bool.not_true, Bool.not_false, Int.not_le, Int.not_lt] at hc2)) | (with_reducible first | refine dop_buildSlice ?_ | refine dop_build ?_) | ((with_reducible refine DDraw.told (id := 3) [2] [.tmp 4] mo ?_ ?_); kernel_rfl) | ((with_reducible refine DDraw.told (id := 9) [0] [.tmp 4] mo ?_ ?_); kernel_rfl) | (with_reducible first | refine stp_build ?_ | refine stp_buildSlice ?_ | refine stp_store ?_ | refine stp_ns ?_) | (with_reducible refine NsB.intro (fun h' ho K' hk => by simp -implicitDefEqProofs (maxSteps := 1000000) only [go_sem, seval, *] <;> exact hk) ?_) | (with_reducible refine WrB.intro _ (by simp -implicitDefEqProofs (maxSteps := 1000000) only [go_sem, seval, *]) (fun h' ho K' hk => by simp -implicitDefEqProofs (maxSteps := 1000000) only [go_sem, seval, *]; exact hk) (fun h' ho K' hk => by simp -implicitDefEqProofs (maxSteps := 1000000) only [go_sem, seval, *] at hk; exact hk) (fun h' ho hk => by simp -implicitDefEqProofs (maxSteps := 1000000) only [go_sem, seval, *] at hk <;> with_unfolding_all exact False.elim hk) ?_) | (with_reducible refine WrB.intro _ (by simp -implicitDefEqProofs (maxSteps := 1000000) only [go_sem, seval, *]) (fun h' ho K' hk => by simp -implicitDefEqProofs (maxSteps := 1000000) only [go_sem, seval, *]; exact hk) ?_) | ((with_reducible refine DDraw.auto mo ?_ ?_); kernel_rfl)) <;> simp -implicitDefEqProofs (maxSteps := 1000000) only [go_sem, seval, *]) | (with_reducible refine bi_same ?_))
  rename_i g2 hg2 hn2 g4 hg4 hn4
  generalize hgg : g = g5 at *
  clear hgg
  refine hop.out _ _ fun gs po' co' pf cf S hd hS => ?_
  clear hop
  generalize hH : joinH _ S = H
  have hS0 : H = _ := hH.symm
  have u4 : H.own g4 = some (.cells #[.slice none 0 0] 43) := by rw [hS0]; exact join_l (by simp -implicitDefEqProofs (maxSteps := 1000000) only [go_sem, seval, *])
  have u5 : H.own g5 = some (.cells #[.int .i64 0] 33) := by rw [hS0]; exact join_l (by simp -implicitDefEqProofs (maxSteps := 1000000) only [go_sem, seval, *])
  have hSH : ∀ y o, S.own y = some o → H.own y = some o := fun y o e => by rw [hS0]; exact join_r (fun b o e => (hd b o e).1) e
  have s4 : S.own g4 = none := by
    cases e : S.own g4 with
    | none => rfl
    | some o => have := (hd g4 o e).1; simp only [own_none_iff] at this; exact absurd rfl this.2.2.1
  have s5 : S.own g5 = none := by
    cases e : S.own g5 with
    | none => rfl
    | some o => have := (hd g5 o e).1; simp only [own_none_iff] at this; exact absurd rfl this.1
  have n45 : g4 ≠ g5 ∧ g5 ≠ g4 := ⟨hn.2.1, hn.1⟩
  clear hS0 hH hd hn hn2 hn4
  have v4 := own_ne u4
  have v5 := own_ne u5
  simp -implicitDefEqProofs (maxSteps := 1000000) only [go_sem, seval, *]
  repeat' (first | (with_reducible refine at_seq (by with_unfolding_all exact rfl) ?_) | ((with_reducible first | refine at_plain (by with_unfolding_all exact rfl) ?_ | refine at_draw (by with_unfolding_all exact rfl) ?_ | refine at_cond (by with_unfolding_all exact rfl) ?_ | refine at_exit (by with_unfolding_all exact rfl) ?_ | refine at_ret (by with_unfolding_all exact rfl) ?_ | refine at_skip (by with_unfolding_all exact rfl) ?_ | refine at_label (by with_unfolding_all exact rfl) ?_) <;> try simp -implicitDefEqProofs (maxSteps := 1000000) only [go_sem, seval, *]) | (with_reducible first | refine at_block (by with_unfolding_all exact rfl) ?_ | refine at_loop (by with_unfolding_all exact rfl) ?_) | ((first | ((with_reducible refine NewK.intro fun g hg hn => ?_) <;> try simp only [own_none_iff] at hn) | ((with_reducible first | refine GuardB.split (fun hc => ?_) (fun hc => ?_) | refine CondK.split (fun hc => ?_) (fun hc => ?_) | refine PickK.split (fun hc => ?_) (fun hc => ?_) | refine GuardD.split (fun hc => ?_) (fun hc => ?_)) <;> (have hc2 := hc; try simp only [beq_eq_false_iff_ne, beq_iff_eq, ne_eq, bne_iff_ne, bne_eq_false_iff_eq, decide_eq_true_eq, decide_eq_false_iff_not, Bool.not_true, Bool.not_false, Int.not_le, Int.not_lt] at hc2)) | (with_reducible first | refine dop_buildSlice ?_ | refine dop_build ?_) | ((with_reducible refine DDraw.told (id := 3) [2] [.tmp 4] mo ?_ ?_); kernel_rfl) | ((with_reducible refine DDraw.told (id := 9) [0] [.tmp 4] mo ?_ ?_); kernel_rfl) | (with_reducible first | refine stp_build ?_ | refine stp_buildSlice ?_ | refine stp_store ?_ | refine stp_ns ?_) | (with_reducible refine NsB.intro (fun h' ho K' hk => by simp -implicitDefEqProofs (maxSteps := 1000000) only [go_sem, seval, *] <;> exact hk) ?_) | (with_reducible refine WrB.intro _ (by simp -implicitDefEqProofs (maxSteps := 1000000) only [go_sem, seval, *]) (fun h' ho K' hk => by simp -implicitDefEqProofs (maxSteps := 1000000) only [go_sem, seval, *]; exact hk) (fun h' ho K' hk => by simp -implicitDefEqProofs (maxSteps := 1000000) only [go_sem, seval, *] at hk; exact hk) (fun h' ho hk => by simp -implicitDefEqProofs (maxSteps := 1000000) only [go_sem, seval, *] at hk <;> with_unfolding_all exact False.elim hk) ?_) | (with_reducible refine WrB.intro _ (by simp -implicitDefEqProofs (maxSteps := 1000000) only [go_sem, seval, *]) (fun h' ho K' hk => by simp -implicitDefEqProofs (maxSteps := 1000000) only [go_sem, seval, *]; exact hk) ?_) | ((with_reducible refine DDraw.auto mo ?_ ?_); kernel_rfl)) <;> simp -implicitDefEqProofs (maxSteps := 1000000) only [go_sem, seval, *]) | (with_reducible refine bi_same ?_))
  generalize hgg : g = g6 at *
  clear hgg
  have n6 := hn
  have n46 := v4 g6 n6
  have n56 := v5 g6 n6
  have s6 := kept_none hSH n6
  refine at_rangeFunc (by with_unfolding_all exact rfl) ?_
  refine DWp.rangeFuncB (gf := 72) (ba := #[.pointer (some ⟨gs, 0, none⟩)]) (lb := #[]) hT (by simp -implicitDefEqProofs (maxSteps := 1000000) only [go_sem, seval, *]) ent_steps (fun D hD1 hD2 L hL1 hL2 fn => ?_)
  simp only [own_none_iff] at hD2 hL2
  generalize hrec : recL fn _ _ _ _ D = rec
  have es : rec.state = .ready := by rw [← hrec]; rfl
  have en : rec.pending = none := by rw [← hrec]; rfl
  have ea : rec.assign = _ := congrArg Loop.assign hrec.symm
  have eb : rec.body = _ := congrArg Loop.body hrec.symm
  have et : rec.tmps = _ := congrArg Loop.tmps hrec.symm
  have ep : rec.params = _ := congrArg Loop.params hrec.symm
  simp only [recL] at ea eb et ep
  replace ea := Hold.mk ea
  replace eb := Hold.mk eb
  replace et := Hold.mk et
  replace ep := Hold.mk ep
  have er : ({ state := .ready, pending := none, fn := rec.fn, tmps := rec.tmps, params := rec.params, assign := rec.assign, body := rec.body, defers := rec.defers } : Loop) = rec := by rw [← hrec]; rfl
  have hLH : H.own L = none := by simp only [hL2]
  have hDH : H.own D = none := by simp only [hD2]
  have sL := kept_none hSH hLH
  have sD := kept_none hSH hDH
  have n4L := v4 L hLH
  have n5L := v5 L hLH
  have n4D := v4 D hDH
  have n5D := v5 D hDH
  have n6L : g6 ≠ L ∧ L ≠ g6 := ⟨by simp only [hL2, not_false_eq_true, ne_eq], by simp only [hL2, not_false_eq_true, ne_eq]⟩
  have n6D : g6 ≠ D ∧ D ≠ g6 := ⟨by simp only [hD2, not_false_eq_true, ne_eq], by simp only [hD2, not_false_eq_true, ne_eq]⟩
  have nDL : D ≠ L ∧ L ≠ D := ⟨by simp only [hL2, not_false_eq_true, ne_eq], by simp only [hL2, not_false_eq_true, ne_eq]⟩
  clear hL2 hD2
  obtain ⟨PL, hPL⟩ : ∃ PL, PL = planV dn a0 a1 d0 d1 ws ox := ⟨_, rfl⟩
  obtain ⟨V, hVd⟩ : ∃ V, V = endV a0 a1 d0 d1 ws ox := ⟨_, rfl⟩
  obtain ⟨I, hId⟩ : ∃ I : Nat → Hp → Prop, I = fun fr h' => (∀ g o, S.own g = some o → h'.own g = some o) ∧ h'.own L = some (.loop rec) ∧ h'.own D = some (.deferred (some [])) ∧ h'.own g5 = some (.cells #[.int .i64 0] 33) ∧ h'.own g6 = some (.cells #[.pointer (some ⟨gs, 0, none⟩)] 98) ∧
    ∃ (v : Value) (xs : List (Int × Int)), h'.own g4 = some (.cells #[v] 43) ∧ Own F h' 51 2 v xs.length (xs.flatMap spC) ∧ (∀ x, blk v = some x → S.own x = none ∧ x ≠ L ∧ x ≠ D ∧ x ≠ g4 ∧ x ≠ g5 ∧ x ≠ g6) ∧ xs ++ planF dn a0 a1 d0 d1 ws ox (allN ox) fr = PL ∧ stepN a0 a1 d0 d1 ws ox (allN ox) fr = V ∧ xs.length ≤ fr := ⟨_, rfl⟩
  obtain ⟨E, hEd⟩ : ∃ E : Hp → Prop, E = fun h' => h'.own L = some (.loop { rec with state := .done, pending := some .ret }) ∧ h'.own D = some (.deferred (some [])) ∧ h'.own g4 = some (.cells #[.slice none 0 0] 43) ∧ h'.own g5 = some (.cells #[.int .i64 7] 33) ∧ V ≠ allN ox := ⟨_, rfl⟩
  show DCall Try.prog F 72 #[.pointer (some ⟨gs, 0, none⟩), .func (.yield L) #[] #[]] _ _
  have ab := Hold.mk (allN_bd sv.out.ords.1)
  refine steps_D F _ _ gs _ _ _ _ pw nw cw po' no co' pf cf dn ws ox L S I (fun fr h => fr < reachV a0 a1 d0 d1 ws ox fr ∧ I (reachV a0 a1 d0 d1 ws ox fr) h) E sv hS ⟨?_⟩ ⟨?_⟩ ⟨fun fr h _ _ q => q.2⟩ ?_ ⟨?_⟩ ⟨fun fr h _ q1 q2 => absurd q2.1 (by omega)⟩ ⟨?_⟩
  · intro fr h' hij
    rw [hId] at hij
    exact ⟨hij.1, rec, hij.2.1, by rw [ep.out]; rfl⟩
  · intro fr h' K' hlt hij hk hke r hr
    rw [hId] at hij
    obtain ⟨m0, m1, m2, m5, m6, v, xs, m4, ow, bv, pl, ev, xl⟩ := hij
    obtain rfl : rec = r := by rw [m1] at hr; cases hr; rfl
    have w1 := own_ne m1
    have w2 := own_ne m2
    have w4 := own_ne m4
    have w5 := own_ne m5
    have w6 := own_ne m6
    have rb := reachV_bd (s0 := a0) (s1 := a1) (c0 := d0) (c1 := d1) (ws := ws) (os := ox) (fr := fr) (by omega)
    by_cases hto : reachV a0 a1 d0 d1 ws ox fr = fr
    · rw [stepN_fix hto] at ev
      replace hke := Hold.mk hke
      have q0 : ((fr : Int) == (fr : Int)) = true := by simp
      rw [hEd] at hke
      dsimp only at hke
      have nev : V ≠ allN ox := by omega
      rw [hto]
      clear hr hId hEd hk rb pl xl ab
      refine DRound.intro ?_
      simp only [ea.out, eb.out, et.out, ep.out, fold2]
      clear hrec
      simp -implicitDefEqProofs (maxSteps := 1000000) only [go_sem, seval, *]
      repeat' (first | (with_reducible refine at_seq (by with_unfolding_all exact rfl) ?_) | ((with_reducible first | refine at_plain (by with_unfolding_all exact rfl) ?_ | refine at_draw (by with_unfolding_all exact rfl) ?_ | refine at_cond (by with_unfolding_all exact rfl) ?_ | refine at_exit (by with_unfolding_all exact rfl) ?_ | refine at_ret (by with_unfolding_all exact rfl) ?_ | refine at_skip (by with_unfolding_all exact rfl) ?_ | refine at_label (by with_unfolding_all exact rfl) ?_) <;> try simp -implicitDefEqProofs (maxSteps := 1000000) only [go_sem, seval, *]) | (with_reducible first | refine at_block (by with_unfolding_all exact rfl) ?_ | refine at_loop (by with_unfolding_all exact rfl) ?_) | ((first | ((with_reducible refine NewK.intro_inr fun g hg hn => ?_); try simp only [own_none_iff] at hn) | ((with_reducible refine NewK.intro fun g hg hn => ?_) <;> try simp only [own_none_iff] at hn) | ((with_reducible first | refine GuardB.split (fun hc => ?_) (fun hc => ?_) | refine CondK.split (fun hc => ?_) (fun hc => ?_) | refine PickK.split (fun hc => ?_) (fun hc => ?_) | refine GuardD.split (fun hc => ?_) (fun hc => ?_)) <;> (have hc2 := hc; try simp only [beq_eq_false_iff_ne, beq_iff_eq, ne_eq, bne_iff_ne, bne_eq_false_iff_eq, decide_eq_true_eq, decide_eq_false_iff_not, Bool.not_true, Bool.not_false, Int.not_le, Int.not_lt] at hc2)) | (with_reducible first | refine dop_buildSlice ?_ | refine dop_build ?_) | ((with_reducible refine DDraw.told (id := 3) [2] [.tmp 4] mo ?_ ?_); kernel_rfl) | ((with_reducible refine DDraw.told (id := 9) [0] [.tmp 4] mo ?_ ?_); kernel_rfl) | (with_reducible first | refine stp_build ?_ | refine stp_buildSlice ?_ | refine stp_store ?_ | refine stp_ns ?_) | (with_reducible refine NsB.intro (fun h' ho K' hk => by simp -implicitDefEqProofs (maxSteps := 1000000) only [go_sem, seval, *] <;> exact hk) ?_) | (with_reducible refine WrB.intro _ (by simp -implicitDefEqProofs (maxSteps := 1000000) only [go_sem, seval, *]) (fun h' ho K' hk => by simp -implicitDefEqProofs (maxSteps := 1000000) only [go_sem, seval, *]; exact hk) (fun h' ho K' hk => by simp -implicitDefEqProofs (maxSteps := 1000000) only [go_sem, seval, *] at hk; exact hk) (fun h' ho hk => by simp -implicitDefEqProofs (maxSteps := 1000000) only [go_sem, seval, *] at hk <;> with_unfolding_all exact False.elim hk) ?_) | (with_reducible refine WrB.intro _ (by simp -implicitDefEqProofs (maxSteps := 1000000) only [go_sem, seval, *]) (fun h' ho K' hk => by simp -implicitDefEqProofs (maxSteps := 1000000) only [go_sem, seval, *]; exact hk) ?_) | ((with_reducible refine DDraw.auto mo ?_ ?_); kernel_rfl)) <;> simp -implicitDefEqProofs (maxSteps := 1000000) only [go_sem, seval, *]) | (with_reducible refine bi_same ?_))
      exact hke.out _ ⟨by simp -implicitDefEqProofs (maxSteps := 1000000) only [go_sem, seval, *], by simp -implicitDefEqProofs (maxSteps := 1000000) only [go_sem, seval, *], by simp -implicitDefEqProofs (maxSteps := 1000000) only [go_sem, seval, *], by simp -implicitDefEqProofs (maxSteps := 1000000) only [go_sem, seval, *], nev⟩
    · have hlt2 : fr < reachV a0 a1 d0 d1 ws ox fr := by omega
      have pl' : xs ++ ((fr : Int), aimV dn a0 a1 d0 d1 ws ox fr) :: planF dn a0 a1 d0 d1 ws ox (allN ox) (reachV a0 a1 d0 d1 ws ox fr) = PL := by
        rw [← pl]
        congr 1
        obtain ⟨A, hA⟩ : ∃ A, allN ox = A + 1 := ⟨allN ox - 1, by omega⟩
        rw [planF_fuel dn a0 a1 d0 d1 ws ox (allN ox) A (reachV a0 a1 d0 d1 ws ox fr) (by omega) (by omega), hA, planF, if_pos ⟨by omega, hlt2⟩]
      have ev' : stepN a0 a1 d0 d1 ws ox (allN ox) (reachV a0 a1 d0 d1 ws ox fr) = V := by
        rw [← ev]
        obtain ⟨A, hA⟩ : ∃ A, allN ox = A + 1 := ⟨allN ox - 1, by omega⟩
        rw [stepN_fuel a0 a1 d0 d1 ws ox (allN ox) A (reachV a0 a1 d0 d1 ws ox fr) rb.2 (by omega) (by omega), hA, stepN]
      replace hk := Hold.mk hk
      rw [hId] at hk
      dsimp only at hk
      have tb := tgF_bd sv.out (fr := fr) (to := reachV a0 a1 d0 d1 ws ox fr) hlt2 rb.2
      have abd := ab.out
      have ht : Hold (∀ ro, ShopR ro gs a0 a1 d0 d1 pw nw cw po' no co' pf cf dn ws ox → Cr Try.prog 68 #[.pointer (some ⟨gs, 0, none⟩), .int .i64 fr, .int .i64 ((reachV a0 a1 d0 d1 ws ox fr : Nat) : Int)] ro (.agg #[.int .i64 (tgF a0 a1 d0 d1 ws ox fr ((reachV a0 a1 d0 d1 ws ox fr : Nat) : Int)).1, .int .i64 (tgF a0 a1 d0 d1 ws ox fr ((reachV a0 a1 d0 d1 ws ox fr : Nat) : Int)).2])) := ⟨fun ro h => tgF_ok ro gs _ _ _ _ pw nw cw po' no co' pf cf dn ws ox fr _ h sv ⟨by omega⟩⟩
      have q0 : ((fr : Int) == ((reachV a0 a1 d0 d1 ws ox fr : Nat) : Int)) = false := by simp; omega
      unfold aimV at pl'
      generalize tgF a0 a1 d0 d1 ws ox fr ((reachV a0 a1 d0 d1 ws ox fr : Nat) : Int) = t at *
      have x1 : IntKind.i64.wrap (0 - t.1) = -t.1 := by rw [IntWalk.i64_in _ (by omega)]; omega
      have x2 : IntKind.i64.wrap (0 - t.2) = -t.2 := by rw [IntWalk.i64_in _ (by omega)]; omega
      have hbk : Hold (∀ ro, ShopR ro gs a0 a1 d0 d1 pw nw cw po' no co' pf cf dn ws ox → Cr Try.prog 67 #[.pointer (some ⟨gs, 0, none⟩), .agg #[.int .i64 t.1, .int .i64 t.2]] ro (.agg #[.int .i64 (backV dn t).1, .int .i64 (backV dn t).2])) := ⟨fun ro h => back_ok ro gs dn t.1 t.2 h.m8 x1 x2⟩
      generalize backV dn t = tb2 at *
      generalize hto2 : reachV a0 a1 d0 d1 ws ox fr = to at *
      have xlb := Hold.mk (show xs.length + 1 ≤ to ∧ xs.length ≤ 400000 from by omega)
      have hlt2H := Hold.mk hlt2
      have plH := Hold.mk pl'
      have evH := Hold.mk ev'
      have bvH := Hold.mk bv
      have b4 : blk v ≠ some g4 := fun e => (bv _ e).2.2.2.1 rfl
      have b5 : blk v ≠ some g5 := fun e => (bv _ e).2.2.2.2.1 rfl
      have b6 : blk v ≠ some g6 := fun e => (bv _ e).2.2.2.2.2 rfl
      have bL : blk v ≠ some L := fun e => (bv _ e).2.1 rfl
      have hSi : Hold (ShopR (S.cell? F.inr) gs a0 a1 d0 d1 pw nw cw po' no co' pf cf dn ws ox) := ⟨hS.out⟩
      have kS : Hold (∀ (ob : Obj) y o, S.own y = some o → (dropV (h'.set L ob) v).own y = some o) := ⟨fun ob y o e => by
        have q1 : blk v ≠ some y := fun e2 => by rw [(bv _ e2).1] at e; cases e
        have q2 : y ≠ L := by rintro rfl; rw [sL] at e; cases e
        rw [dropV_own q1, Hp.own_set, if_neg q2]
        exact m0 y o e⟩
      clear hr hId hEd hke rb pl pl' ev ev' xl tb abd ab hto hto2 hlt hlt2 bv x1 x2 kA kB
      refine DRound.intro ?_
      simp only [ea.out, eb.out, et.out, ep.out, fold2]
      clear hrec
      simp -implicitDefEqProofs (maxSteps := 1000000) only [go_sem, seval, *]
      repeat' (first | (with_reducible refine at_seq (by with_unfolding_all exact rfl) ?_) | ((with_reducible first | refine at_plain (by with_unfolding_all exact rfl) ?_ | refine at_draw (by with_unfolding_all exact rfl) ?_ | refine at_cond (by with_unfolding_all exact rfl) ?_ | refine at_exit (by with_unfolding_all exact rfl) ?_ | refine at_ret (by with_unfolding_all exact rfl) ?_ | refine at_skip (by with_unfolding_all exact rfl) ?_ | refine at_label (by with_unfolding_all exact rfl) ?_) <;> try simp -implicitDefEqProofs (maxSteps := 1000000) only [go_sem, seval, *]) | (with_reducible first | refine at_block (by with_unfolding_all exact rfl) ?_ | refine at_loop (by with_unfolding_all exact rfl) ?_) | ((first | ((with_reducible refine DDraw.lastS (id := 9) [] (dropV _ v) mo ?_ (fun g o e => dropV_le e) ?_); kernel_rfl) | ((with_reducible refine NewK.intro_inr fun g hg hn => ?_); try simp only [own_none_iff] at hn) | ((with_reducible refine NewK.intro fun g hg hn => ?_) <;> try simp only [own_none_iff] at hn) | ((with_reducible first | refine GuardB.split (fun hc => ?_) (fun hc => ?_) | refine CondK.split (fun hc => ?_) (fun hc => ?_) | refine PickK.split (fun hc => ?_) (fun hc => ?_) | refine GuardD.split (fun hc => ?_) (fun hc => ?_)) <;> (have hc2 := hc; try simp only [beq_eq_false_iff_ne, beq_iff_eq, ne_eq, bne_iff_ne, bne_eq_false_iff_eq, decide_eq_true_eq, decide_eq_false_iff_not, Bool.not_true, Bool.not_false, Int.not_le, Int.not_lt] at hc2)) | (with_reducible first | refine dop_buildSlice ?_ | refine dop_build ?_) | ((with_reducible refine Cr.call (f := 68) (ht.out _ (hSi.out.mono fun a u e => sub_cell (kS.out _) e)) ?_)) | (with_reducible refine CallV.of (f := 68) (ht.out _ (hSi.out.mono fun a u e => sub_cell (kS.out _) e)) ni68 ?_) | ((with_reducible refine Cr.call (f := 67) (hbk.out _ (hSi.out.mono fun a u e => sub_cell (kS.out _) e)) ?_)) | (with_reducible refine CallV.of (f := 67) (hbk.out _ (hSi.out.mono fun a u e => sub_cell (kS.out _) e)) ni67 ?_) | ((with_reducible refine DDraw.told (id := 3) [2] [.tmp 4] mo ?_ ?_); kernel_rfl) | ((with_reducible refine DDraw.told (id := 9) [0] [.tmp 4] mo ?_ ?_); kernel_rfl) | (with_reducible first | refine stp_build ?_ | refine stp_buildSlice ?_ | refine stp_store ?_ | refine stp_ns ?_) | (with_reducible refine NsB.intro (fun h' ho K' hk => by simp -implicitDefEqProofs (maxSteps := 1000000) only [go_sem, seval, *] <;> exact hk) ?_) | (with_reducible refine WrB.intro _ (by simp -implicitDefEqProofs (maxSteps := 1000000) only [go_sem, seval, *]) (fun h' ho K' hk => by simp -implicitDefEqProofs (maxSteps := 1000000) only [go_sem, seval, *]; exact hk) (fun h' ho K' hk => by simp -implicitDefEqProofs (maxSteps := 1000000) only [go_sem, seval, *] at hk; exact hk) (fun h' ho hk => by simp -implicitDefEqProofs (maxSteps := 1000000) only [go_sem, seval, *] at hk <;> with_unfolding_all exact False.elim hk) ?_) | (with_reducible refine WrB.intro _ (by simp -implicitDefEqProofs (maxSteps := 1000000) only [go_sem, seval, *]) (fun h' ho K' hk => by simp -implicitDefEqProofs (maxSteps := 1000000) only [go_sem, seval, *]; exact hk) ?_) | ((with_reducible refine DDraw.auto mo ?_ ?_); kernel_rfl)) <;> simp -implicitDefEqProofs (maxSteps := 1000000) only [go_sem, seval, *]) | (with_reducible refine bi_same ?_))
      have bvo := bvH.out
      have hgh := hn.2.2
      refine AppD.draw (F := F.inr) Try.underlying43 inf_set (by decide) (by decide) (Own.kept (F := F.inr) ow fun b ob e1 e2 => ?_) (ys := [.int .i64 fr, .int .i64 tb2.1]) (by simp -implicitDefEqProofs (maxSteps := 1000000) only [go_sem, seval, *]) (one_set _ _) (by have := xlb.out; omega) (fun b e => dropV_none (.inl e)) fun u gA obA hA bA r1 => ?_
      · have q1 := (bvo b e1).2.1
        have q2 := (own_ne e2 g hgh).1
        rw [Hp.own_set, if_neg q2, Hp.own_set, if_neg q1]
        exact e2
      have nA : gA ≠ g ∧ S.own gA = none ∧ gA ≠ L ∧ gA ≠ D ∧ gA ≠ g4 ∧ gA ≠ g5 ∧ gA ≠ g6 := by
        rcases hA with e | ⟨e, _⟩
        · have q := bvo gA e
          obtain ⟨ob, ho⟩ := ow.owned gA e
          exact ⟨(own_ne ho g hgh).1, q.1, q.2.1, q.2.2.1, q.2.2.2.1, q.2.2.2.2.1, q.2.2.2.2.2⟩
        · simp only [own_none_iff] at e
          have e2 := e.2.2.2.2
          exact ⟨e.1, kept_none m0 e2, e.2.2.1, (w2 gA e2).2, (w4 gA e2).2, (w5 gA e2).2, (w6 gA e2).2⟩
      have y1 := neG nA.1
      have y2 := neG nA.2.2.1
      have y3 := neG nA.2.2.2.1
      have y4 := neG nA.2.2.2.2.1
      have y5 := neG nA.2.2.2.2.2.1
      have y6 := neG nA.2.2.2.2.2.2
      obtain ⟨pu, cu, rfl⟩ := r1.len
      have r1' := Hold.mk r1
      have owH := Hold.mk ow
      clear r1 hA ow b4 b5 b6 bL
      simp -implicitDefEqProofs (maxSteps := 1000000) only [go_sem, seval, *]
      repeat' (first | (with_reducible refine at_seq (by with_unfolding_all exact rfl) ?_) | ((with_reducible first | refine at_plain (by with_unfolding_all exact rfl) ?_ | refine at_draw (by with_unfolding_all exact rfl) ?_ | refine at_cond (by with_unfolding_all exact rfl) ?_ | refine at_exit (by with_unfolding_all exact rfl) ?_ | refine at_ret (by with_unfolding_all exact rfl) ?_ | refine at_skip (by with_unfolding_all exact rfl) ?_ | refine at_label (by with_unfolding_all exact rfl) ?_) <;> try simp -implicitDefEqProofs (maxSteps := 1000000) only [go_sem, seval, *]) | (with_reducible first | refine at_block (by with_unfolding_all exact rfl) ?_ | refine at_loop (by with_unfolding_all exact rfl) ?_) | ((first | ((with_reducible refine NewK.intro fun g hg hn => ?_) <;> try simp only [own_none_iff] at hn) | ((with_reducible first | refine GuardB.split (fun hc => ?_) (fun hc => ?_) | refine CondK.split (fun hc => ?_) (fun hc => ?_) | refine PickK.split (fun hc => ?_) (fun hc => ?_) | refine GuardD.split (fun hc => ?_) (fun hc => ?_)) <;> (have hc2 := hc; try simp only [beq_eq_false_iff_ne, beq_iff_eq, ne_eq, bne_iff_ne, bne_eq_false_iff_eq, decide_eq_true_eq, decide_eq_false_iff_not, Bool.not_true, Bool.not_false, Int.not_le, Int.not_lt] at hc2)) | (with_reducible first | refine dop_buildSlice ?_ | refine dop_build ?_) | ((with_reducible refine DDraw.told (id := 3) [2] [.tmp 4] mo ?_ ?_); kernel_rfl) | ((with_reducible refine DDraw.told (id := 9) [0] [.tmp 4] mo ?_ ?_); kernel_rfl) | (with_reducible first | refine stp_build ?_ | refine stp_buildSlice ?_ | refine stp_store ?_ | refine stp_ns ?_) | (with_reducible refine NsB.intro (fun h' ho K' hk => by simp -implicitDefEqProofs (maxSteps := 1000000) only [go_sem, seval, *] <;> exact hk) ?_) | (with_reducible refine WrB.intro _ (by simp -implicitDefEqProofs (maxSteps := 1000000) only [go_sem, seval, *]) (fun h' ho K' hk => by simp -implicitDefEqProofs (maxSteps := 1000000) only [go_sem, seval, *]; exact hk) (fun h' ho K' hk => by simp -implicitDefEqProofs (maxSteps := 1000000) only [go_sem, seval, *] at hk; exact hk) (fun h' ho hk => by simp -implicitDefEqProofs (maxSteps := 1000000) only [go_sem, seval, *] at hk <;> with_unfolding_all exact False.elim hk) ?_) | (with_reducible refine WrB.intro _ (by simp -implicitDefEqProofs (maxSteps := 1000000) only [go_sem, seval, *]) (fun h' ho K' hk => by simp -implicitDefEqProofs (maxSteps := 1000000) only [go_sem, seval, *]; exact hk) ?_) | ((with_reducible refine DDraw.auto mo ?_ ?_); kernel_rfl)) <;> simp -implicitDefEqProofs (maxSteps := 1000000) only [go_sem, seval, *]) | (with_reducible refine bi_same ?_))
      refine hk.out _ ⟨hlt2H.out, fun y o e => ?_, by simp -implicitDefEqProofs (maxSteps := 1000000) only [go_sem, seval, *], by simp -implicitDefEqProofs (maxSteps := 1000000) only [go_sem, seval, *], by simp -implicitDefEqProofs (maxSteps := 1000000) only [go_sem, seval, *], by simp -implicitDefEqProofs (maxSteps := 1000000) only [go_sem, seval, *], .slice pu (xs.length + 1) cu, xs ++ [((fr : Int), tb2.1)], by simp -implicitDefEqProofs (maxSteps := 1000000) only [go_sem, seval, *], ?_, ?_, by rw [List.append_assoc]; exact plH.out, evH.out, by rw [List.length_append]; exact xlb.out.1⟩
      · have a1 : y ≠ L := by rintro rfl; rw [sL] at e; cases e
        have a2 : y ≠ g4 := by rintro rfl; rw [s4] at e; cases e
        have a3 : y ≠ gA := by rintro rfl; rw [nA.2.1] at e; cases e
        have a4 := own_ne (m0 y o e)
        have a5 := m0 y o e
        simp -implicitDefEqProofs (maxSteps := 1000000) only [go_sem, seval, *]
      · have := Own.at_ (F := F) (gA := gA) (h' := ((((h'.set L (.loop rec)).set g (.cells #[] 51)).set gA obA).set g4 (.cells #[.slice pu (xs.length + 1) cu] 43)).set L (.loop rec)) r1'.out bA (by rw [Hp.own_set, if_neg y2.1, Hp.own_set, if_neg y4.1, Hp.own_set, if_pos rfl, Hp.own_set, if_pos rfl])
        rw [List.length_append, List.flatMap_append]
        refine Own.at_ (F := F) (gA := gA) this bA ?_
        simp -implicitDefEqProofs (maxSteps := 1000000) only [go_sem, seval, *]
      · intro x hx
        rw [bA] at hx
        cases hx
        exact ⟨nA.2.1, nA.2.2.1, nA.2.2.2.1, nA.2.2.2.2.1, nA.2.2.2.2.2.1, nA.2.2.2.2.2.2⟩
  · rw [hId]
    refine ⟨fun y o e => ?_, by simp -implicitDefEqProofs (maxSteps := 1000000) only [go_sem, seval, *], by simp -implicitDefEqProofs (maxSteps := 1000000) only [go_sem, seval, *], by simp -implicitDefEqProofs (maxSteps := 1000000) only [go_sem, seval, *], by simp -implicitDefEqProofs (maxSteps := 1000000) only [go_sem, seval, *], .slice none 0 0, [], by simp -implicitDefEqProofs (maxSteps := 1000000) only [go_sem, seval, *], Own.nil, fun x e => (by cases e), ?_, ?_, Nat.zero_le _⟩
    · have q := own_ne (hSH y o e)
      have q2 := hSH y o e
      have q3 : y ≠ L := by rintro rfl; rw [sL] at e; cases e
      have q4 : y ≠ D := by rintro rfl; rw [sD] at e; cases e
      have q5 : y ≠ g5 := by rintro rfl; rw [s5] at e; cases e
      have q6 : y ≠ g6 := by rintro rfl; rw [s6] at e; cases e
      simp -implicitDefEqProofs (maxSteps := 1000000) only [go_sem, seval, *]
    · rw [hPL]; rfl
    · rw [hVd]; rfl
  · intro h' hij
    rw [hId] at hij
    obtain ⟨m0, m1, m2, m5, m6, v, xs, m4, ow, bv, pl, ev, xl⟩ := hij
    have e1 : planF dn a0 a1 d0 d1 ws ox (allN ox) (allN ox) = [] := by rw [planF_fuel dn a0 a1 d0 d1 ws ox (allN ox) 0 (allN ox) (by omega) (by omega)]; rfl
    rw [e1, List.append_nil] at pl
    rw [stepN_fix reach_all] at ev
    subst pl
    have kf := Hold.mk (kA.out (by rw [← hVd, ev]))
    rw [← hPL] at kf
    have owH := Hold.mk ow
    have bvH := Hold.mk bv
    have dvL : blk v ≠ some L := fun e => (bv _ e).2.1 rfl
    have dvD : blk v ≠ some D := fun e => (bv _ e).2.2.1 rfl
    have dv4 : blk v ≠ some g4 := fun e => (bv _ e).2.2.2.1 rfl
    have dv5 : blk v ≠ some g5 := fun e => (bv _ e).2.2.2.2.1 rfl
    obtain ⟨pu, cu, rfl⟩ := ow.len
    have w1 := own_ne m1
    have w2 := own_ne m2
    have w4 := own_ne m4
    have w5 := own_ne m5
    simp only [LeftK_app, m1, LeftR_some, en, OutR_none, es]
    refine ⟨(by intro hx; cases hx), ?_⟩
    clear hrec hId hEd ea eb et ep er ow bv kA kB hPL hVd e1
    simp -implicitDefEqProofs (maxSteps := 1000000) only [go_sem, seval, *]
    repeat' (first | (with_reducible refine at_seq (by with_unfolding_all exact rfl) ?_) | ((with_reducible first | refine at_plain (by with_unfolding_all exact rfl) ?_ | refine at_draw (by with_unfolding_all exact rfl) ?_ | refine at_cond (by with_unfolding_all exact rfl) ?_ | refine at_exit (by with_unfolding_all exact rfl) ?_ | refine at_ret (by with_unfolding_all exact rfl) ?_ | refine at_skip (by with_unfolding_all exact rfl) ?_ | refine at_label (by with_unfolding_all exact rfl) ?_) <;> try simp -implicitDefEqProofs (maxSteps := 1000000) only [go_sem, seval, *]) | (with_reducible first | refine at_block (by with_unfolding_all exact rfl) ?_ | refine at_loop (by with_unfolding_all exact rfl) ?_) | ((first | ((with_reducible refine NewK.intro fun g hg hn => ?_) <;> try simp only [own_none_iff] at hn) | ((with_reducible first | refine GuardB.split (fun hc => ?_) (fun hc => ?_) | refine CondK.split (fun hc => ?_) (fun hc => ?_) | refine PickK.split (fun hc => ?_) (fun hc => ?_) | refine GuardD.split (fun hc => ?_) (fun hc => ?_)) <;> (have hc2 := hc; try simp only [beq_eq_false_iff_ne, beq_iff_eq, ne_eq, bne_iff_ne, bne_eq_false_iff_eq, decide_eq_true_eq, decide_eq_false_iff_not, Bool.not_true, Bool.not_false, Int.not_le, Int.not_lt] at hc2)) | (with_reducible first | refine dop_buildSlice ?_ | refine dop_build ?_) | ((with_reducible refine DDraw.told (id := 3) [2] [.tmp 4] mo ?_ ?_); kernel_rfl) | ((with_reducible refine DDraw.told (id := 9) [0] [.tmp 4] mo ?_ ?_); kernel_rfl) | (with_reducible first | refine stp_build ?_ | refine stp_buildSlice ?_ | refine stp_store ?_ | refine stp_ns ?_) | (with_reducible refine NsB.intro (fun h' ho K' hk => by simp -implicitDefEqProofs (maxSteps := 1000000) only [go_sem, seval, *] <;> exact hk) ?_) | (with_reducible refine WrB.intro _ (by simp -implicitDefEqProofs (maxSteps := 1000000) only [go_sem, seval, *]) (fun h' ho K' hk => by simp -implicitDefEqProofs (maxSteps := 1000000) only [go_sem, seval, *]; exact hk) (fun h' ho K' hk => by simp -implicitDefEqProofs (maxSteps := 1000000) only [go_sem, seval, *] at hk; exact hk) (fun h' ho hk => by simp -implicitDefEqProofs (maxSteps := 1000000) only [go_sem, seval, *] at hk <;> with_unfolding_all exact False.elim hk) ?_) | (with_reducible refine WrB.intro _ (by simp -implicitDefEqProofs (maxSteps := 1000000) only [go_sem, seval, *]) (fun h' ho K' hk => by simp -implicitDefEqProofs (maxSteps := 1000000) only [go_sem, seval, *]; exact hk) ?_) | ((with_reducible refine DDraw.auto mo ?_ ?_); kernel_rfl)) <;> simp -implicitDefEqProofs (maxSteps := 1000000) only [go_sem, seval, *]) | (with_reducible refine bi_same ?_))
    refine kf.out _ _ (owH.out.kept fun b ob e1 e2 => ?_)
    have q := bvH.out b e1
    have q1 := q.2.1
    have q2 := q.2.2.1
    have q3 := q.2.2.2.1
    have q4 := q.2.2.2.2.1
    simp -implicitDefEqProofs (maxSteps := 1000000) only [go_sem, seval, *]
  · intro h' hE'
    rw [hEd] at hE'
    obtain ⟨m1, m2, m4, m5, nev⟩ := hE'
    have kf := Hold.mk (kB.out (by rw [← hVd]; exact nev))
    have w1 := own_ne m1
    have w2 := own_ne m2
    have w4 := own_ne m4
    have w5 := own_ne m5
    simp only [LeftK_app, m1, LeftR_some, OutR_ret]
    refine ⟨(by intro hx; cases hx), ?_⟩
    clear hrec hId hEd ea eb et ep er kA kB hPL hVd
    simp -implicitDefEqProofs (maxSteps := 1000000) only [go_sem, seval, *]
    repeat' (first | (with_reducible refine at_seq (by with_unfolding_all exact rfl) ?_) | ((with_reducible first | refine at_plain (by with_unfolding_all exact rfl) ?_ | refine at_draw (by with_unfolding_all exact rfl) ?_ | refine at_cond (by with_unfolding_all exact rfl) ?_ | refine at_exit (by with_unfolding_all exact rfl) ?_ | refine at_ret (by with_unfolding_all exact rfl) ?_ | refine at_skip (by with_unfolding_all exact rfl) ?_ | refine at_label (by with_unfolding_all exact rfl) ?_) <;> try simp -implicitDefEqProofs (maxSteps := 1000000) only [go_sem, seval, *]) | (with_reducible first | refine at_block (by with_unfolding_all exact rfl) ?_ | refine at_loop (by with_unfolding_all exact rfl) ?_) | ((first | ((with_reducible refine NewK.intro fun g hg hn => ?_) <;> try simp only [own_none_iff] at hn) | ((with_reducible first | refine GuardB.split (fun hc => ?_) (fun hc => ?_) | refine CondK.split (fun hc => ?_) (fun hc => ?_) | refine PickK.split (fun hc => ?_) (fun hc => ?_) | refine GuardD.split (fun hc => ?_) (fun hc => ?_)) <;> (have hc2 := hc; try simp only [beq_eq_false_iff_ne, beq_iff_eq, ne_eq, bne_iff_ne, bne_eq_false_iff_eq, decide_eq_true_eq, decide_eq_false_iff_not, Bool.not_true, Bool.not_false, Int.not_le, Int.not_lt] at hc2)) | (with_reducible first | refine dop_buildSlice ?_ | refine dop_build ?_) | ((with_reducible refine DDraw.told (id := 3) [2] [.tmp 4] mo ?_ ?_); kernel_rfl) | ((with_reducible refine DDraw.told (id := 9) [0] [.tmp 4] mo ?_ ?_); kernel_rfl) | (with_reducible first | refine stp_build ?_ | refine stp_buildSlice ?_ | refine stp_store ?_ | refine stp_ns ?_) | (with_reducible refine NsB.intro (fun h' ho K' hk => by simp -implicitDefEqProofs (maxSteps := 1000000) only [go_sem, seval, *] <;> exact hk) ?_) | (with_reducible refine WrB.intro _ (by simp -implicitDefEqProofs (maxSteps := 1000000) only [go_sem, seval, *]) (fun h' ho K' hk => by simp -implicitDefEqProofs (maxSteps := 1000000) only [go_sem, seval, *]; exact hk) (fun h' ho K' hk => by simp -implicitDefEqProofs (maxSteps := 1000000) only [go_sem, seval, *] at hk; exact hk) (fun h' ho hk => by simp -implicitDefEqProofs (maxSteps := 1000000) only [go_sem, seval, *] at hk <;> with_unfolding_all exact False.elim hk) ?_) | (with_reducible refine WrB.intro _ (by simp -implicitDefEqProofs (maxSteps := 1000000) only [go_sem, seval, *]) (fun h' ho K' hk => by simp -implicitDefEqProofs (maxSteps := 1000000) only [go_sem, seval, *]; exact hk) ?_) | ((with_reducible refine DDraw.auto mo ?_ ?_); kernel_rfl)) <;> simp -implicitDefEqProofs (maxSteps := 1000000) only [go_sem, seval, *]) | (with_reducible refine bi_same ?_))
    exact kf.out _
/-- A call whose own memory is new, and that reads what is owned. -/
theorem DCall.freshH {P : Program} {F : Fr} {f : FuncId} {args : Array Value} {h : Hp} {K : Value → Hp → Prop} {K' : Fr → Value → Hp → Prop} (c : ∀ F' : Fr, F'.ro = h.cell? F → F'.top = true → F.w0.heap.size ≤ F'.w0.heap.size → DCall P F' f args Hp.none_ (K' F'))
    (hk : ∀ F' v h', F'.ro = h.cell? F → F.w0.heap.size ≤ F'.w0.heap.size → K' F' v h' → (∀ b o, h'.own b = some o → h.own b = none ∧ F.w0.heap.size ≤ b) → K v (joinH h h')) : DCall P F f args h K := by
  refine ⟨fun w r => ?_⟩
  let F' : Fr := ⟨w, fun _ => False, h.cell? F, fun a u e => ⟨r.cell e, fun x => x⟩, true⟩
  refine ((c F' rfl rfl r.size).out w (HRel.start F' Hp.none_ (fun _ => rfl))).mono fun e w' hh => ?_
  obtain ⟨v, h', he, hv, r'⟩ := hh
  have hd : ∀ b o, h'.own b = some o → h.own b = none ∧ F.w0.heap.size ≤ b := fun b o e => by
    have hm : w.heap.size ≤ b := (r'.mine b o e).resolve_right fun x => x
    refine ⟨?_, Nat.le_trans r.size hm⟩
    cases e2 : h.own b with
    | none => rfl
    | some q => have := own_lt r e2; omega
  refine ⟨v, joinH h h', he, hk F' v h' rfl r.size hv hd, ?_⟩
  refine ⟨fun g o e => ?_, Nat.le_trans r.size r'.size, r'.os.trans r.os, r'.tape.trans r.tape, r'.output.trans r.output, fun b h1 h2 => ?_, fun g o e => ?_⟩
  · unfold joinH at e
    dsimp only at e
    cases e2 : h.own g with
    | none => rw [e2] at e; exact r'.own g o e
    | some q =>
      rw [e2] at e
      cases e
      exact (r'.frame g (own_lt r e2) fun x => x).trans (r.own g _ e2)
  · exact (r'.frame b (Nat.lt_of_lt_of_le h1 r.size) fun x => x).trans (r.frame b h1 h2)
  · unfold joinH at e
    dsimp only at e
    cases e2 : h.own g with
    | none => rw [e2] at e; exact .inl (hd g o e).2
    | some q => exact r.mine g q e2
theorem Own.lower {F F' : Fr} {h : Hp} {e size n : Nat} {v : Value} {xs : List Value} (hs : F.w0.heap.size ≤ F'.w0.heap.size) (o : Own F' h e size v n xs) : Own F h e size v n xs := by
  refine ⟨o.1, o.2.imp id ?_⟩
  rintro ⟨g, cap, tl, h1, h2, h3⟩
  exact ⟨g, cap, tl, h1, Nat.le_trans hs h2, h3⟩
theorem Plan_H (F : Fr) (h : Hp) (K : Value → Hp → Prop) (dn : Bool) (s0 s1 c0 c1 : Int) (pw : Option Addr) (nw cw : Nat) (ws : List (Int × Int)) (po : Option Addr) (no co : Nat) (os : List Ord) (hx : RdS (h.cell? F) pw nw 2 (ws.flatMap spC)) (hb : Hold (nw < 9223372036854775808)) (hy : RdS (h.cell? F) po no 4 (os.flatMap oC)) (hb' : Hold (no < 9223372036854775808)) (he : chkV s0 s1 c0 c1 ws os = 0)
    (kA : endV (sgnA dn s0 s1) (sgnB dn s0 s1) (sgnA dn c0 c1) (sgnB dn c0 c1) ws (ordT dn os) = allN os → ∀ v hN, (∀ b o, hN.own b = some o → h.own b = none ∧ F.w0.heap.size ≤ b) → Own F hN 51 2 v (planV dn (sgnA dn s0 s1) (sgnB dn s0 s1) (sgnA dn c0 c1) (sgnB dn c0 c1) ws (ordT dn os)).length ((planV dn (sgnA dn s0 s1) (sgnB dn s0 s1) (sgnA dn c0 c1) (sgnB dn c0 c1) ws (ordT dn os)).flatMap spC) → K (.tuple #[v, .int .i64 0]) (joinH h hN))
    (kB : endV (sgnA dn s0 s1) (sgnB dn s0 s1) (sgnA dn c0 c1) (sgnB dn c0 c1) ws (ordT dn os) ≠ allN os → K (.tuple #[.slice none 0 0, .int .i64 7]) h) :
    DCall Try.prog F 26 #[.agg #[.bool dn, .int .i64 s0, .int .i64 s1, .int .i64 c0, .int .i64 c1, .slice pw nw cw], .slice po no co] h K := by
  refine DCall.weak ?_
  refine DCall.freshH (K' := fun F' v h' => (endV (sgnA dn s0 s1) (sgnB dn s0 s1) (sgnA dn c0 c1) (sgnB dn c0 c1) ws (ordT dn os) = allN os ∧ ∃ u, v = .tuple #[u, .int .i64 0] ∧ Own F' h' 51 2 u (planV dn (sgnA dn s0 s1) (sgnB dn s0 s1) (sgnA dn c0 c1) (sgnB dn c0 c1) ws (ordT dn os)).length ((planV dn (sgnA dn s0 s1) (sgnB dn s0 s1) (sgnA dn c0 c1) (sgnB dn c0 c1) ws (ordT dn os)).flatMap spC)) ∨ (endV (sgnA dn s0 s1) (sgnB dn s0 s1) (sgnA dn c0 c1) (sgnB dn c0 c1) ws (ordT dn os) ≠ allN os ∧ v = .tuple #[.slice none 0 0, .int .i64 7])) (fun F' e1 e2 e3 => ?_) (fun F' v h' e1 e2 e3 e4 => ?_)
  · exact Plan_D F' e2 dn s0 s1 c0 c1 pw nw cw ws po no co os (by rw [e1]; exact hx) hb (by rw [e1]; exact hy) hb' he _ ⟨fun q v h' o => .inl ⟨q, v, rfl, o⟩⟩ ⟨fun q h' => .inr ⟨q, rfl⟩⟩
  · rcases e3 with ⟨q, u, rfl, o⟩ | ⟨q, rfl⟩
    · exact ⟨_, sub_refl, kA q u h' e4 (Own.lower e2 o)⟩
    · exact ⟨h, fun y o e => join_l e, kB q⟩
set_option maxHeartbeats 4000000 in
theorem Plan_E (ro : Addr → Option Value) (dn : Bool) (s0 s1 c0 c1 : Int) (pw : Option Addr) (nw cw : Nat) (ws : List (Int × Int)) (po : Option Addr) (no co : Nat) (os : List Ord) (hx : RdS ro pw nw 2 (ws.flatMap spC)) (hb : Hold (nw < 9223372036854775808)) (hy : RdS ro po no 4 (os.flatMap oC)) (hb' : Hold (no < 9223372036854775808)) (he : chkV s0 s1 c0 c1 ws os ≠ 0) :
    Cr Try.prog 26 #[.agg #[.bool dn, .int .i64 s0, .int .i64 s1, .int .i64 c0, .int .i64 c1, .slice pw nw cw], .slice po no co] ro (.tuple #[.slice none 0 0, .int .i64 (chkV s0 s1 c0 c1 ws os)]) := by
  refine Cr.ofD fun F hF hT => ?_
  subst hF
  replace hx := Hold.mk hx
  replace hy := Hold.mk hy
  have hop : Hold (∀ (h : Hp) (K : Value → Hp → Prop), K (.tuple #[.pointer none, .int .i64 (chkV s0 s1 c0 c1 ws os)]) h → DCall Try.prog F 63 #[.agg #[.bool dn, .int .i64 s0, .int .i64 s1, .int .i64 c0, .int .i64 c1, .slice pw nw cw], .slice po no co] h K) := ⟨fun h K hK => open_E F h K dn s0 s1 c0 c1 pw nw cw ws po no co os (hx.out.mono fun a u e => Hp.cell_ro e) hb (hy.out.mono fun a u e => Hp.cell_ro e) hb' he hK⟩
  have q1 : (chkV s0 s1 c0 c1 ws os != 0) = true := by simpa using he
  generalize chkV s0 s1 c0 c1 ws os = e at *
  clear hx hy he
  (refine DCall.inlP (l := _) Try.func26 Try.ntmps26 rfl rfl (by simp only [seval, List.length_cons, List.length_nil]) (by simp only [seval, List.length_cons, List.length_nil]) ?_; simp only [Try.results26, List.map_cons, List.map_nil])
  repeat' (first | (with_reducible refine at_seq (by with_unfolding_all exact rfl) ?_) | ((with_reducible first | refine at_plain (by with_unfolding_all exact rfl) ?_ | refine at_draw (by with_unfolding_all exact rfl) ?_ | refine at_cond (by with_unfolding_all exact rfl) ?_ | refine at_exit (by with_unfolding_all exact rfl) ?_ | refine at_ret (by with_unfolding_all exact rfl) ?_ | refine at_skip (by with_unfolding_all exact rfl) ?_ | refine at_label (by with_unfolding_all exact rfl) ?_) <;> try simp -implicitDefEqProofs (maxSteps := 1000000) only [go_sem, seval, *]) | (with_reducible first | refine at_block (by with_unfolding_all exact rfl) ?_ | refine at_loop (by with_unfolding_all exact rfl) ?_) | ((first | ((with_reducible refine NewK.intro fun g hg hn => ?_) <;> try simp only [own_none_iff] at hn) | ((with_reducible first | refine GuardB.split (fun hc => ?_) (fun hc => ?_) | refine CondK.split (fun hc => ?_) (fun hc => ?_) | refine PickK.split (fun hc => ?_) (fun hc => ?_) | refine GuardD.split (fun hc => ?_) (fun hc => ?_)) <;> (have hc2 := hc; try simp only [beq_eq_false_iff_ne, beq_iff_eq, ne_eq, bne_iff_ne, bne_eq_false_iff_eq, decide_eq_true_eq, decide_eq_false_iff_not, Bool.not_true, Bool.not_false, Int.not_le, Int.not_lt] at hc2)) | (with_reducible first | refine dop_buildSlice ?_ | refine dop_build ?_) | ((with_reducible refine DDraw.told (id := 3) [2] [.tmp 4] mo ?_ ?_); kernel_rfl) | ((with_reducible refine DDraw.told (id := 9) [0] [.tmp 4] mo ?_ ?_); kernel_rfl) | (with_reducible first | refine stp_build ?_ | refine stp_buildSlice ?_ | refine stp_store ?_ | refine stp_ns ?_) | (with_reducible refine NsB.intro (fun h' ho K' hk => by simp -implicitDefEqProofs (maxSteps := 1000000) only [go_sem, seval, *] <;> exact hk) ?_) | (with_reducible refine WrB.intro _ (by simp -implicitDefEqProofs (maxSteps := 1000000) only [go_sem, seval, *]) (fun h' ho K' hk => by simp -implicitDefEqProofs (maxSteps := 1000000) only [go_sem, seval, *]; exact hk) (fun h' ho K' hk => by simp -implicitDefEqProofs (maxSteps := 1000000) only [go_sem, seval, *] at hk; exact hk) (fun h' ho hk => by simp -implicitDefEqProofs (maxSteps := 1000000) only [go_sem, seval, *] at hk <;> with_unfolding_all exact False.elim hk) ?_) | (with_reducible refine WrB.intro _ (by simp -implicitDefEqProofs (maxSteps := 1000000) only [go_sem, seval, *]) (fun h' ho K' hk => by simp -implicitDefEqProofs (maxSteps := 1000000) only [go_sem, seval, *]; exact hk) ?_) | ((with_reducible refine DDraw.auto mo ?_ ?_); kernel_rfl)) <;> simp -implicitDefEqProofs (maxSteps := 1000000) only [go_sem, seval, *]) | (with_reducible refine bi_same ?_))
  refine hop.out _ _ ?_
  clear hop
  simp -implicitDefEqProofs (maxSteps := 1000000) only [go_sem, seval, *]
  repeat' (first | (with_reducible refine at_seq (by with_unfolding_all exact rfl) ?_) | ((with_reducible first | refine at_plain (by with_unfolding_all exact rfl) ?_ | refine at_draw (by with_unfolding_all exact rfl) ?_ | refine at_cond (by with_unfolding_all exact rfl) ?_ | refine at_exit (by with_unfolding_all exact rfl) ?_ | refine at_ret (by with_unfolding_all exact rfl) ?_ | refine at_skip (by with_unfolding_all exact rfl) ?_ | refine at_label (by with_unfolding_all exact rfl) ?_) <;> try simp -implicitDefEqProofs (maxSteps := 1000000) only [go_sem, seval, *]) | (with_reducible first | refine at_block (by with_unfolding_all exact rfl) ?_ | refine at_loop (by with_unfolding_all exact rfl) ?_) | ((first | ((with_reducible refine NewK.intro fun g hg hn => ?_) <;> try simp only [own_none_iff] at hn) | ((with_reducible first | refine GuardB.split (fun hc => ?_) (fun hc => ?_) | refine CondK.split (fun hc => ?_) (fun hc => ?_) | refine PickK.split (fun hc => ?_) (fun hc => ?_) | refine GuardD.split (fun hc => ?_) (fun hc => ?_)) <;> (have hc2 := hc; try simp only [beq_eq_false_iff_ne, beq_iff_eq, ne_eq, bne_iff_ne, bne_eq_false_iff_eq, decide_eq_true_eq, decide_eq_false_iff_not, Bool.not_true, Bool.not_false, Int.not_le, Int.not_lt] at hc2)) | (with_reducible first | refine dop_buildSlice ?_ | refine dop_build ?_) | ((with_reducible refine DDraw.told (id := 3) [2] [.tmp 4] mo ?_ ?_); kernel_rfl) | ((with_reducible refine DDraw.told (id := 9) [0] [.tmp 4] mo ?_ ?_); kernel_rfl) | (with_reducible first | refine stp_build ?_ | refine stp_buildSlice ?_ | refine stp_store ?_ | refine stp_ns ?_) | (with_reducible refine NsB.intro (fun h' ho K' hk => by simp -implicitDefEqProofs (maxSteps := 1000000) only [go_sem, seval, *] <;> exact hk) ?_) | (with_reducible refine WrB.intro _ (by simp -implicitDefEqProofs (maxSteps := 1000000) only [go_sem, seval, *]) (fun h' ho K' hk => by simp -implicitDefEqProofs (maxSteps := 1000000) only [go_sem, seval, *]; exact hk) (fun h' ho K' hk => by simp -implicitDefEqProofs (maxSteps := 1000000) only [go_sem, seval, *] at hk; exact hk) (fun h' ho hk => by simp -implicitDefEqProofs (maxSteps := 1000000) only [go_sem, seval, *] at hk <;> with_unfolding_all exact False.elim hk) ?_) | (with_reducible refine WrB.intro _ (by simp -implicitDefEqProofs (maxSteps := 1000000) only [go_sem, seval, *]) (fun h' ho K' hk => by simp -implicitDefEqProofs (maxSteps := 1000000) only [go_sem, seval, *]; exact hk) ?_) | ((with_reducible refine DDraw.auto mo ?_ ?_); kernel_rfl)) <;> simp -implicitDefEqProofs (maxSteps := 1000000) only [go_sem, seval, *]) | (with_reducible refine bi_same ?_))

end Go.Proofs.Ytlbpfmnobapidaa
