/-
  Walks. Conditions: none.
-/
import Derived.Test.YtlbpfmnobapidaaD10
set_option linter.unusedVariables false
set_option linter.unusedSimpArgs false
namespace Go.Proofs.Ytlbpfmnobapidaa
open Go.RowKit Go.SL
set_option maxHeartbeats 1000000
set_option maxRecDepth 1000000
attribute [local go_sem] fl_getD fl_get fl_set lk_def st_def gL_nil gL_zero gL_succ sL_nil_zero sL_nil_succ sL_zero sL_succ Option.getD_none FgK_app onlyL_nil onlyL_none onlyL_some setO_some toB_bool toB_undef yl_def
attribute [local go_sem high] GuardK_yl GuardL_yl
attribute [local go_sem] i64w
attribute [local go_sem] dwp_eqGuardE dwp_eqGuardN rval_eqGuardE rval_eqGuardN
attribute [local go_sem] add_none
theorem inf_ord : okInfo Try.prog 88 4 32 = true := by kernel_rfl
theorem inf_int : okInfo Try.prog 3 1 8 = true := by kernel_rfl
theorem neG {a b : Nat} (h : a ≠ b) : a ≠ b ∧ b ≠ a := ⟨h, Ne.symm h⟩
def turnO (o : Ord) : Ord := ⟨o.pc, o.st, -o.z1, -o.z0⟩
theorem Own.at_ {F : Fr} {h h' : Hp} {e size n gA : Nat} {v : Value} {xs : List Value} (r : Own F h e size v n xs) (hb : blk v = some gA) (hk : h'.own gA = h.own gA) : Own F h' e size v n xs :=
  r.kept fun b ob e1 e2 => by rw [hb] at e1; cases e1; rw [hk]; exact e2
theorem notAgg_ord (o : Ord) : ∀ y ∈ oC o, notAgg y = true := by
  intro y hy
  unfold oC at hy
  simp only [List.mem_cons, List.not_mem_nil, or_false] at hy
  rcases hy with rfl | rfl | rfl | rfl <;> rfl
def IUp (no co : Nat) (po : Option Addr) (g2 g4 : Nat) (os : List Ord) (F : Fr) (h0 : Hp) (k' : Nat) (a : Act) (h : Hp) : Prop :=
  ∃ (i : Nat) (v : Value) (x : Nat → Value), Hold (i + k' = no) ∧ Hold (∀ y o, h0.own y = some o → h.own y = some o) ∧ Own F h 88 4 v i (((os.map turnO).take i).flatMap oC) ∧ Hold (∀ b, blk v = some b → h0.own b = none) ∧ a = ⟨fl 39 x [[none, none, some (.pointer (some ⟨g2, 0, none⟩)), none, some (.pointer (some ⟨g4, 0, none⟩)), none, some (v), none, none, none, none, none, none, none, some (.slice po no co), some (.int .i64 no)], [some (.int .i64 i)]], []⟩
set_option maxHeartbeats 8000000 in
theorem up_D (F : Fr) (h : Hp) (K : Value → Hp → Prop) (dn : Bool) (s0 s1 c0 c1 : Int) (pw : Option Addr) (nw cw : Nat) (po : Option Addr) (no co : Nat) (os : List Ord)
    (hy : Hold (RdS (h.cell? F) po no 4 (os.flatMap oC))) (hO : Hold (OrdsOk nw os)) (hA : Hold (AimOk s0 s1 c0 c1))
    (k0 : Hold (dn = false → K (.tuple #[.agg #[.bool dn, .int .i64 s0, .int .i64 s1, .int .i64 c0, .int .i64 c1, .slice pw nw cw], .slice po no co]) h))
    (k1 : Hold (dn = true → ∀ u h', (∀ y o, h.own y = some o → h'.own y = some o) → Own F h' 88 4 u no ((os.map turnO).flatMap oC) → (∀ b, blk u = some b → h.own b = none) →
      K (.tuple #[.agg #[.bool false, .int .i64 (-s1), .int .i64 (-s0), .int .i64 (-c1), .int .i64 (-c0), .slice pw nw cw], u]) h')) :
    DCall Try.prog F 92 #[.agg #[.bool dn, .int .i64 s0, .int .i64 s1, .int .i64 c0, .int .i64 c1, .slice pw nw cw], .slice po no co] h K := by
  refine DCall.weak ?_
  cases dn with
  | false =>
    have kf := Hold.mk (k0.out rfl)
    (refine DCall.inlP (l := _) Try.func92 Try.ntmps92 rfl rfl (by simp only [seval, List.length_cons, List.length_nil]) (by simp only [seval, List.length_cons, List.length_nil]) ?_; simp only [Try.results92, List.map_cons, List.map_nil])
    repeat' (first | (with_reducible refine at_seq (by with_unfolding_all exact rfl) ?_) | ((with_reducible first | refine at_plain (by with_unfolding_all exact rfl) ?_ | refine at_draw (by with_unfolding_all exact rfl) ?_ | refine at_cond (by with_unfolding_all exact rfl) ?_ | refine at_exit (by with_unfolding_all exact rfl) ?_ | refine at_ret (by with_unfolding_all exact rfl) ?_ | refine at_skip (by with_unfolding_all exact rfl) ?_ | refine at_label (by with_unfolding_all exact rfl) ?_) <;> try simp -implicitDefEqProofs (maxSteps := 1000000) only [go_sem, seval, *]) | (with_reducible first | refine at_block (by with_unfolding_all exact rfl) ?_ | refine at_loop (by with_unfolding_all exact rfl) ?_) | ((first | ((with_reducible refine NewK.intro fun g hg hn => ?_) <;> try simp only [own_none_iff] at hn) | ((with_reducible first | refine GuardB.split (fun hc => ?_) (fun hc => ?_) | refine CondK.split (fun hc => ?_) (fun hc => ?_) | refine PickK.split (fun hc => ?_) (fun hc => ?_) | refine GuardD.split (fun hc => ?_) (fun hc => ?_)) <;> (have hc2 := hc; try simp only [beq_eq_false_iff_ne, beq_iff_eq, ne_eq, bne_iff_ne, bne_eq_false_iff_eq, decide_eq_true_eq, decide_eq_false_iff_not, Bool.not_true, Bool.not_false, Int.not_le, Int.not_lt] at hc2)) | (with_reducible first | refine dop_buildSlice ?_ | refine dop_build ?_) | ((with_reducible refine DDraw.told (id := 10) [] [.tmp 4] mo ?_ ?_); kernel_rfl) | (with_reducible first | refine stp_build ?_ | refine stp_buildSlice ?_ | refine stp_store ?_ | refine stp_ns ?_) | (with_reducible refine NsB.intro (fun h' ho K' hk => by simp -implicitDefEqProofs (maxSteps := 1000000) only [go_sem, seval, *] <;> exact hk) ?_) | (with_reducible refine WrB.intro _ (by simp -implicitDefEqProofs (maxSteps := 1000000) only [go_sem, seval, *]) (fun h' ho K' hk => by simp -implicitDefEqProofs (maxSteps := 1000000) only [go_sem, seval, *]; exact hk) (fun h' ho K' hk => by simp -implicitDefEqProofs (maxSteps := 1000000) only [go_sem, seval, *] at hk; exact hk) (fun h' ho hk => by simp -implicitDefEqProofs (maxSteps := 1000000) only [go_sem, seval, *] at hk <;> with_unfolding_all exact False.elim hk) ?_) | (with_reducible refine WrB.intro _ (by simp -implicitDefEqProofs (maxSteps := 1000000) only [go_sem, seval, *]) (fun h' ho K' hk => by simp -implicitDefEqProofs (maxSteps := 1000000) only [go_sem, seval, *]; exact hk) ?_) | ((with_reducible refine DDraw.auto mo ?_ ?_); kernel_rfl)) <;> simp -implicitDefEqProofs (maxSteps := 1000000) only [go_sem, seval, *]) | (with_reducible refine bi_same ?_))
    refine ⟨h, ?_, kf.out⟩
    intro y o e
    have := own_ne e
    simp -implicitDefEqProofs (maxSteps := 1000000) only [go_sem, seval, *]
  | true =>
    have kf := Hold.mk (k1.out rfl)
    clear k0 k1
    have hlen := hy.out.count oC_len (by decide)
    have h40 := hO.out.len
    have a1 := hA.out.s
    have a2 := hA.out.c
    have x1 : IntKind.i64.wrap (0 - s0) = -s0 := by rw [IntWalk.i64_in _ (by omega)]; omega
    have x2 : IntKind.i64.wrap (0 - s1) = -s1 := by rw [IntWalk.i64_in _ (by omega)]; omega
    have x3 : IntKind.i64.wrap (0 - c0) = -c0 := by rw [IntWalk.i64_in _ (by omega)]; omega
    have x4 : IntKind.i64.wrap (0 - c1) = -c1 := by rw [IntWalk.i64_in _ (by omega)]; omega
    clear a1 a2
    (refine DCall.inlP (l := _) Try.func92 Try.ntmps92 rfl rfl (by simp only [seval, List.length_cons, List.length_nil]) (by simp only [seval, List.length_cons, List.length_nil]) ?_; simp only [Try.results92, List.map_cons, List.map_nil])
    repeat' (first | (with_reducible refine at_seq (by with_unfolding_all exact rfl) ?_) | ((with_reducible first | refine at_plain (by with_unfolding_all exact rfl) ?_ | refine at_draw (by with_unfolding_all exact rfl) ?_ | refine at_cond (by with_unfolding_all exact rfl) ?_ | refine at_exit (by with_unfolding_all exact rfl) ?_ | refine at_ret (by with_unfolding_all exact rfl) ?_ | refine at_skip (by with_unfolding_all exact rfl) ?_ | refine at_label (by with_unfolding_all exact rfl) ?_) <;> try simp -implicitDefEqProofs (maxSteps := 1000000) only [go_sem, seval, *]) | (with_reducible first | refine at_block (by with_unfolding_all exact rfl) ?_ | refine at_loop (by with_unfolding_all exact rfl) ?_) | ((first | ((with_reducible refine NewK.intro fun g hg hn => ?_) <;> try simp only [own_none_iff] at hn) | ((with_reducible first | refine GuardB.split (fun hc => ?_) (fun hc => ?_) | refine CondK.split (fun hc => ?_) (fun hc => ?_) | refine PickK.split (fun hc => ?_) (fun hc => ?_) | refine GuardD.split (fun hc => ?_) (fun hc => ?_)) <;> (have hc2 := hc; try simp only [beq_eq_false_iff_ne, beq_iff_eq, ne_eq, bne_iff_ne, bne_eq_false_iff_eq, decide_eq_true_eq, decide_eq_false_iff_not, Bool.not_true, Bool.not_false, Int.not_le, Int.not_lt] at hc2)) | (with_reducible first | refine dop_buildSlice ?_ | refine dop_build ?_) | ((with_reducible refine DDraw.told (id := 10) [] [.tmp 4] mo ?_ ?_); kernel_rfl) | (with_reducible first | refine stp_build ?_ | refine stp_buildSlice ?_ | refine stp_store ?_ | refine stp_ns ?_) | (with_reducible refine NsB.intro (fun h' ho K' hk => by simp -implicitDefEqProofs (maxSteps := 1000000) only [go_sem, seval, *] <;> exact hk) ?_) | (with_reducible refine WrB.intro _ (by simp -implicitDefEqProofs (maxSteps := 1000000) only [go_sem, seval, *]) (fun h' ho K' hk => by simp -implicitDefEqProofs (maxSteps := 1000000) only [go_sem, seval, *]; exact hk) (fun h' ho K' hk => by simp -implicitDefEqProofs (maxSteps := 1000000) only [go_sem, seval, *] at hk; exact hk) (fun h' ho hk => by simp -implicitDefEqProofs (maxSteps := 1000000) only [go_sem, seval, *] at hk <;> with_unfolding_all exact False.elim hk) ?_) | (with_reducible refine WrB.intro _ (by simp -implicitDefEqProofs (maxSteps := 1000000) only [go_sem, seval, *]) (fun h' ho K' hk => by simp -implicitDefEqProofs (maxSteps := 1000000) only [go_sem, seval, *]; exact hk) ?_) | ((with_reducible refine DDraw.auto mo ?_ ?_); kernel_rfl)) <;> simp -implicitDefEqProofs (maxSteps := 1000000) only [go_sem, seval, *]) | (with_reducible refine bi_same ?_))
    rename_i g2 hg2 hn2
    generalize hgg : g = g4 at *
    clear hgg
    obtain ⟨H, hH⟩ : ∃ H, H = ((h.set g2 (.cells #[.bool true, .int .i64 s0, .int .i64 s1, .int .i64 c0, .int .i64 c1, .slice pw nw cw] 26)).set g4 (.cells #[.bool false, .int .i64 0, .int .i64 0, .int .i64 0, .int .i64 0, .slice none 0 0] 26)) := ⟨_, rfl⟩
    rw [← hH]
    have u2 : H.own g2 = some (.cells #[.bool true, .int .i64 s0, .int .i64 s1, .int .i64 c0, .int .i64 c1, .slice pw nw cw] 26) := by rw [hH]; simp -implicitDefEqProofs (maxSteps := 1000000) only [go_sem, seval, *]
    have u4 : H.own g4 = some (.cells #[.bool false, .int .i64 0, .int .i64 0, .int .i64 0, .int .i64 0, .slice none 0 0] 26) := by rw [hH]; simp -implicitDefEqProofs (maxSteps := 1000000) only [go_sem, seval, *]
    have hsub : ∀ y o, h.own y = some o → H.own y = some o := by
      intro y o e
      rw [hH]
      have := own_ne e
      simp -implicitDefEqProofs (maxSteps := 1000000) only [go_sem, seval, *]
    have hfr : ∀ b, H.own b = none → h.own b = none := by
      intro b e
      cases e2 : h.own b with
      | none => rfl
      | some o => rw [hsub b o e2] at e; cases e
    have hyH := Hold.mk (hy.out.mono fun a u e => sub_cell hsub e)
    refine DLoop.indW (IUp no co po g2 g4 os F H) no ⟨0, .slice none 0 0, _, ⟨by omega⟩, ⟨sub_refl⟩, Own.nil, ⟨fun b e => by cases e⟩, fl_re (by kernel_rfl)⟩ ?_
    have n24 : g2 ≠ g4 ∧ g4 ≠ g2 := ⟨hn.2.1, hn.1⟩
    have hB4 : h.own g4 = none := hn.2.2
    clear hH hn hn2 hy
    generalize hhh : h = hB at *
    clear hhh
    (rintro k' a h ⟨i, v, x, fa0, fa1, fa2, fa3, rfl⟩)
    have hj := fa0.out
    have w2 := fa1.out _ _ u2
    have w4 := fa1.out _ _ u4
    have v2 := own_ne w2
    have v4 := own_ne w4
    have i0 : (0 : Int) ≤ (i : Int) := by omega
    by_cases hlt : i < no
    · have i1 : ((i : Int) < (no : Int)) = True := by simp only [eq_iff_iff, iff_true]; omega
      have iw : IntKind.i64.wrap ((i : Int) + 1) = ((i + 1 : Nat) : Int) := by rw [IntWalk.i64_in _ (by omega)]; push_cast; rfl
      have hxi : os[i]? = some os[i] := List.getElem?_eq_getElem (by omega)
      have hyh := hyH.out.mono fun a u e => sub_cell (h' := h) fa1.out e
      obtain ⟨b, off, rfl, hro⟩ := hyh.at oC_len hlt hxi
      have r0 := hro 0 _ rfl
      have r1 := hro 1 _ rfl
      have r2 := hro 2 _ rfl
      have r3 := hro 3 _ rfl
      rw [Nat.add_zero] at r0
      have zb := hO.out.z _ (List.getElem_mem (by omega : i < os.length))
      have tk : ((os.map turnO).take (i + 1)).flatMap oC = ((os.map turnO).take i).flatMap oC ++ oC (turnO os[i]) := by
        rw [List.take_add_one, List.getElem?_map, hxi]
        simp
      generalize os[i] = o at *
      have w5 : IntKind.i64.wrap (0 - o.z0) = -o.z0 := by rw [IntWalk.i64_in _ (by omega)]; omega
      have w6 : IntKind.i64.wrap (0 - o.z1) = -o.z1 := by rw [IntWalk.i64_in _ (by omega)]; omega
      replace hj := Hold.mk hj
      clear hro hyh zb hxi
      repeat' (first | (with_reducible refine at_seq (by with_unfolding_all exact rfl) ?_) | ((with_reducible first | refine at_plain (by with_unfolding_all exact rfl) ?_ | refine at_draw (by with_unfolding_all exact rfl) ?_ | refine at_cond (by with_unfolding_all exact rfl) ?_ | refine at_exit (by with_unfolding_all exact rfl) ?_ | refine at_ret (by with_unfolding_all exact rfl) ?_ | refine at_skip (by with_unfolding_all exact rfl) ?_ | refine at_label (by with_unfolding_all exact rfl) ?_) <;> try simp -implicitDefEqProofs (maxSteps := 1000000) only [go_sem, seval, *]) | (with_reducible first | refine at_block (by with_unfolding_all exact rfl) ?_ | refine at_loop (by with_unfolding_all exact rfl) ?_) | ((first | ((with_reducible refine NewK.intro fun g hg hn => ?_) <;> try simp only [own_none_iff] at hn) | ((with_reducible first | refine GuardB.split (fun hc => ?_) (fun hc => ?_) | refine CondK.split (fun hc => ?_) (fun hc => ?_) | refine PickK.split (fun hc => ?_) (fun hc => ?_) | refine GuardD.split (fun hc => ?_) (fun hc => ?_)) <;> (have hc2 := hc; try simp only [beq_eq_false_iff_ne, beq_iff_eq, ne_eq, bne_iff_ne, bne_eq_false_iff_eq, decide_eq_true_eq, decide_eq_false_iff_not, Bool.not_true, Bool.not_false, Int.not_le, Int.not_lt] at hc2)) | (with_reducible first | refine dop_buildSlice ?_ | refine dop_build ?_) | ((with_reducible refine Cr.call (f := 81) (turned_ok _ _ _ (by simp -implicitDefEqProofs (maxSteps := 1000000) only [go_sem, seval, *]) (by simp -implicitDefEqProofs (maxSteps := 1000000) only [go_sem, seval, *])) ?_)) | (with_reducible refine CallV.of (f := 81) (turned_ok _ _ _ (by simp -implicitDefEqProofs (maxSteps := 1000000) only [go_sem, seval, *]) (by simp -implicitDefEqProofs (maxSteps := 1000000) only [go_sem, seval, *])) ni81 ?_) | ((with_reducible refine DDraw.told (id := 10) [] [.tmp 4] mo ?_ ?_); kernel_rfl) | (with_reducible first | refine stp_build ?_ | refine stp_buildSlice ?_ | refine stp_store ?_ | refine stp_ns ?_) | (with_reducible refine NsB.intro (fun h' ho K' hk => by simp -implicitDefEqProofs (maxSteps := 1000000) only [go_sem, seval, *] <;> exact hk) ?_) | (with_reducible refine WrB.intro _ (by simp -implicitDefEqProofs (maxSteps := 1000000) only [go_sem, seval, *]) (fun h' ho K' hk => by simp -implicitDefEqProofs (maxSteps := 1000000) only [go_sem, seval, *]; exact hk) (fun h' ho K' hk => by simp -implicitDefEqProofs (maxSteps := 1000000) only [go_sem, seval, *] at hk; exact hk) (fun h' ho hk => by simp -implicitDefEqProofs (maxSteps := 1000000) only [go_sem, seval, *] at hk <;> with_unfolding_all exact False.elim hk) ?_) | (with_reducible refine WrB.intro _ (by simp -implicitDefEqProofs (maxSteps := 1000000) only [go_sem, seval, *]) (fun h' ho K' hk => by simp -implicitDefEqProofs (maxSteps := 1000000) only [go_sem, seval, *]; exact hk) ?_) | ((with_reducible refine DDraw.auto mo ?_ ?_); kernel_rfl)) <;> simp -implicitDefEqProofs (maxSteps := 1000000) only [go_sem, seval, *]) | (with_reducible refine bi_same ?_))
      rename_i g8 hg8 hn8
      have gl := hn.2.2
      refine AppD.own Try.underlying27 inf_ord (by decide) (by decide) (fa2.kept fun b ob _ e2 => subS (subS sub_refl hn8) gl b ob e2) (ys := oC (turnO o)) (by simp -implicitDefEqProofs (maxSteps := 1000000) only [go_sem, seval, *]; rfl) (notAgg_ord _) (by omega) fun u gA obA hA bA r1 => ?_
      have nA : gA ≠ g8 ∧ gA ≠ g ∧ H.own gA = none := by
        rcases hA with e | ⟨e, _⟩
        · obtain ⟨ob, ho⟩ := fa2.owned gA e
          exact ⟨(own_ne ho g8 hn8).1, (own_ne ho g gl).1, fa3.out gA e⟩
        · simp only [own_none_iff] at e
          exact ⟨e.2.2.1, e.1, kept_none fa1.out e.2.2.2.2⟩
      replace r1 := Hold.mk (Own.at_ (h' := h.set gA obA) r1 bA (by rw [Hp.own_set, if_pos rfl, Hp.own_set, if_pos rfl]))
      clear hA fa2 fa3
      simp -implicitDefEqProofs (maxSteps := 1000000) only [go_sem, seval, *]
      repeat' (first | (with_reducible refine at_seq (by with_unfolding_all exact rfl) ?_) | ((with_reducible first | refine at_plain (by with_unfolding_all exact rfl) ?_ | refine at_draw (by with_unfolding_all exact rfl) ?_ | refine at_cond (by with_unfolding_all exact rfl) ?_ | refine at_exit (by with_unfolding_all exact rfl) ?_ | refine at_ret (by with_unfolding_all exact rfl) ?_ | refine at_skip (by with_unfolding_all exact rfl) ?_ | refine at_label (by with_unfolding_all exact rfl) ?_) <;> try simp -implicitDefEqProofs (maxSteps := 1000000) only [go_sem, seval, *]) | (with_reducible first | refine at_block (by with_unfolding_all exact rfl) ?_ | refine at_loop (by with_unfolding_all exact rfl) ?_) | ((first | ((with_reducible refine NewK.intro fun g hg hn => ?_) <;> try simp only [own_none_iff] at hn) | ((with_reducible first | refine GuardB.split (fun hc => ?_) (fun hc => ?_) | refine CondK.split (fun hc => ?_) (fun hc => ?_) | refine PickK.split (fun hc => ?_) (fun hc => ?_) | refine GuardD.split (fun hc => ?_) (fun hc => ?_)) <;> (have hc2 := hc; try simp only [beq_eq_false_iff_ne, beq_iff_eq, ne_eq, bne_iff_ne, bne_eq_false_iff_eq, decide_eq_true_eq, decide_eq_false_iff_not, Bool.not_true, Bool.not_false, Int.not_le, Int.not_lt] at hc2)) | (with_reducible first | refine dop_buildSlice ?_ | refine dop_build ?_) | ((with_reducible refine DDraw.told (id := 10) [] [.tmp 4] mo ?_ ?_); kernel_rfl) | (with_reducible first | refine stp_build ?_ | refine stp_buildSlice ?_ | refine stp_store ?_ | refine stp_ns ?_) | (with_reducible refine NsB.intro (fun h' ho K' hk => by simp -implicitDefEqProofs (maxSteps := 1000000) only [go_sem, seval, *] <;> exact hk) ?_) | (with_reducible refine WrB.intro _ (by simp -implicitDefEqProofs (maxSteps := 1000000) only [go_sem, seval, *]) (fun h' ho K' hk => by simp -implicitDefEqProofs (maxSteps := 1000000) only [go_sem, seval, *]; exact hk) (fun h' ho K' hk => by simp -implicitDefEqProofs (maxSteps := 1000000) only [go_sem, seval, *] at hk; exact hk) (fun h' ho hk => by simp -implicitDefEqProofs (maxSteps := 1000000) only [go_sem, seval, *] at hk <;> with_unfolding_all exact False.elim hk) ?_) | (with_reducible refine WrB.intro _ (by simp -implicitDefEqProofs (maxSteps := 1000000) only [go_sem, seval, *]) (fun h' ho K' hk => by simp -implicitDefEqProofs (maxSteps := 1000000) only [go_sem, seval, *]; exact hk) ?_) | ((with_reducible refine DDraw.auto mo ?_ ?_); kernel_rfl)) <;> simp -implicitDefEqProofs (maxSteps := 1000000) only [go_sem, seval, *]) | (with_reducible refine bi_same ?_))
      have hj := hj.out
      refine LoopW.intro (k' - 1) (h.set gA obA) (by omega) ?_ ⟨i + 1, u, _, ⟨by omega⟩, ⟨subS fa1.out nA.2.2⟩, (by rw [tk]; exact r1.out), ⟨fun b e => by rw [bA] at e; cases e; exact nA.2.2⟩, fl_re (by kernel_rfl)⟩
      intro y oy e
      rw [Hp.own_set] at e ⊢
      split at e
      · rename_i q; rw [if_pos q]; exact e
      · rename_i q
        have q8 := own_ne e
        rw [if_neg q]
        simp -implicitDefEqProofs (maxSteps := 1000000) only [go_sem, seval, *]
    · have i1 : ((i : Int) < (no : Int)) = False := by simp only [eq_iff_iff, iff_false]; omega
      have hjn : no = i := by omega
      subst hjn
      rw [List.take_of_length_le (by rw [List.length_map]; omega)] at fa2
      clear hlt i0 hj hlen h40
      repeat' (first | (with_reducible refine at_seq (by with_unfolding_all exact rfl) ?_) | ((with_reducible first | refine at_plain (by with_unfolding_all exact rfl) ?_ | refine at_draw (by with_unfolding_all exact rfl) ?_ | refine at_cond (by with_unfolding_all exact rfl) ?_ | refine at_exit (by with_unfolding_all exact rfl) ?_ | refine at_ret (by with_unfolding_all exact rfl) ?_ | refine at_skip (by with_unfolding_all exact rfl) ?_ | refine at_label (by with_unfolding_all exact rfl) ?_) <;> try simp -implicitDefEqProofs (maxSteps := 1000000) only [go_sem, seval, *]) | (with_reducible first | refine at_block (by with_unfolding_all exact rfl) ?_ | refine at_loop (by with_unfolding_all exact rfl) ?_) | ((first | ((with_reducible refine NewK.intro fun g hg hn => ?_) <;> try simp only [own_none_iff] at hn) | ((with_reducible first | refine GuardB.split (fun hc => ?_) (fun hc => ?_) | refine CondK.split (fun hc => ?_) (fun hc => ?_) | refine PickK.split (fun hc => ?_) (fun hc => ?_) | refine GuardD.split (fun hc => ?_) (fun hc => ?_)) <;> (have hc2 := hc; try simp only [beq_eq_false_iff_ne, beq_iff_eq, ne_eq, bne_iff_ne, bne_eq_false_iff_eq, decide_eq_true_eq, decide_eq_false_iff_not, Bool.not_true, Bool.not_false, Int.not_le, Int.not_lt] at hc2)) | (with_reducible first | refine dop_buildSlice ?_ | refine dop_build ?_) | ((with_reducible refine Cr.call (f := 81) (turned_ok _ _ _ (by simp -implicitDefEqProofs (maxSteps := 1000000) only [go_sem, seval, *]) (by simp -implicitDefEqProofs (maxSteps := 1000000) only [go_sem, seval, *])) ?_)) | (with_reducible refine CallV.of (f := 81) (turned_ok _ _ _ (by simp -implicitDefEqProofs (maxSteps := 1000000) only [go_sem, seval, *]) (by simp -implicitDefEqProofs (maxSteps := 1000000) only [go_sem, seval, *])) ni81 ?_) | ((with_reducible refine DDraw.told (id := 10) [] [.tmp 4] mo ?_ ?_); kernel_rfl) | (with_reducible first | refine stp_build ?_ | refine stp_buildSlice ?_ | refine stp_store ?_ | refine stp_ns ?_) | (with_reducible refine NsB.intro (fun h' ho K' hk => by simp -implicitDefEqProofs (maxSteps := 1000000) only [go_sem, seval, *] <;> exact hk) ?_) | (with_reducible refine WrB.intro _ (by simp -implicitDefEqProofs (maxSteps := 1000000) only [go_sem, seval, *]) (fun h' ho K' hk => by simp -implicitDefEqProofs (maxSteps := 1000000) only [go_sem, seval, *]; exact hk) (fun h' ho K' hk => by simp -implicitDefEqProofs (maxSteps := 1000000) only [go_sem, seval, *] at hk; exact hk) (fun h' ho hk => by simp -implicitDefEqProofs (maxSteps := 1000000) only [go_sem, seval, *] at hk <;> with_unfolding_all exact False.elim hk) ?_) | (with_reducible refine WrB.intro _ (by simp -implicitDefEqProofs (maxSteps := 1000000) only [go_sem, seval, *]) (fun h' ho K' hk => by simp -implicitDefEqProofs (maxSteps := 1000000) only [go_sem, seval, *]; exact hk) ?_) | ((with_reducible refine DDraw.auto mo ?_ ?_); kernel_rfl)) <;> simp -implicitDefEqProofs (maxSteps := 1000000) only [go_sem, seval, *]) | (with_reducible refine bi_same ?_))
      refine ⟨h.drop g4, fun y o e => ?_, kf.out v (h.drop g4) (fun y o e => ?_) (fa2.drop fun e => ?_) (fun b e => hfr b (fa3.out b e))⟩
      · rw [Hp.own_drop] at e
        split at e
        · cases e
        · rename_i q; rw [if_neg q]; exact e
      · rw [Hp.own_drop, if_neg]
        · exact fa1.out y o (hsub y o e)
        · rintro rfl; rw [hB4] at e; cases e
      · have := fa3.out g4 e
        rw [u4] at this
        cases this

end Go.Proofs.Ytlbpfmnobapidaa
