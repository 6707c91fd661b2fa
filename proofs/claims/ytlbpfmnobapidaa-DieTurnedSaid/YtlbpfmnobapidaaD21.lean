/-
  Walks. Conditions: none.
-/
import Derived.Test.YtlbpfmnobapidaaD20
set_option linter.unusedVariables false
set_option linter.unusedSimpArgs false
namespace Go.Proofs.Ytlbpfmnobapidaa
open Go.RowKit Go.SL
set_option maxHeartbeats 1000000
set_option maxRecDepth 1000000
attribute [local go_sem] fl_getD fl_get fl_set lk_def st_def gL_nil gL_zero gL_succ sL_nil_zero sL_nil_succ sL_zero sL_succ Option.getD_none FgK_app onlyL_nil onlyL_none onlyL_some setO_some toB_bool toB_undef yl_def
attribute [local go_sem high] GuardK_yl GuardL_yl
attribute [local go_sem] initL_one initL_cons lastL_one lastL_cons LastK_app fin_round Fr.inr_w0 Fr.inr_ro Fr.inr_M cell_inr LoopO_some YieldK_some RoundQ_normal RoundQ_ret RoundQ_exit EndR_none EndR_some BegK_app BegR_some OutR_none OutR_ret OutR_exit LeftR_some LeftK_app
attribute [local go_sem] i64w
attribute [local go_sem] dwp_eqGuardE dwp_eqGuardN rval_eqGuardE rval_eqGuardN
attribute [local go_sem] add_none dwp_eqlSl
/-- The first number that can be done together with the next one. -/
def prvL (f : Int → Int → Bool) : Nat → List Int → Int
  | _, [] => -1
  | _, [_] => -1
  | i, a :: b :: r => if f a (b + 1) then (i : Int) else prvL f (i + 1) (b :: r)
def IPr (gs np cp : Nat) (pp : Option Addr) (xs : List Int) (S : Hp) (J : Nat → List Int → Int) (V : Int) (k' : Nat) (a : Act) (h : Hp) : Prop :=
  ∃ (i : Nat) (x : Nat → Value), Hold (i + 1 + k' = np) ∧ Hold (∀ y o, S.own y = some o → h.own y = some o) ∧ Hold (J i (xs.drop i) = V) ∧ a = ⟨fl 50 x [[none, none, some (.slice pp np cp), none, none, none, none, none, some (.pointer (some ⟨gs, 0, none⟩))], [], [some (.int .i64 ((np : Int) - 1)), some (.int .i64 i)]], []⟩
set_option maxHeartbeats 8000000 in
theorem Proves_K (ro : Addr → Option Value) (dn : Bool) (s0 s1 c0 c1 : Int) (pw : Option Addr) (nw cw : Nat) (ws : List (Int × Int)) (po : Option Addr) (no co : Nat) (os : List Ord) (pp : Option Addr) (np cp : Nat) (xs : List Int) (hx : RdS ro pw nw 2 (ws.flatMap spC)) (hb : Hold (nw < 9223372036854775808)) (hy : RdS ro po no 4 (os.flatMap oC)) (hb' : Hold (no < 9223372036854775808)) (he : chkV s0 s1 c0 c1 ws os = 0) (hz : RdS ro pp np 1 (ints xs)) (hN : 1 ≤ np ∧ np ≤ 1000) (hA : Asc xs) (hI : allI 0 ((allN os : Int) - 1) xs = true) :
    Cr Try.prog 35 #[.agg #[.bool dn, .int .i64 s0, .int .i64 s1, .int .i64 c0, .int .i64 c1, .slice pw nw cw], .slice po no co, .slice pp np cp] ro (.tuple #[.int .i64 (prvL (canV (sgnA dn s0 s1) (sgnB dn s0 s1) (sgnA dn c0 c1) (sgnB dn c0 c1) ws (ordT dn os)) 0 xs), .int .i64 0]) := by
  have hl1 := hx.count spC_len (by decide)
  have hl2 := hy.count oC_len (by decide)
  have hlen : xs.length = np := by have := hz.len; unfold ints at this; simpa using this
  have sv0 := chk_shop he
  rw [hl1, hl2] at sv0
  have sv := Hold.mk (shop_turn dn sv0)
  rw [← ordT_all dn os] at hI
  refine Cr.ofD fun F hF hT => ?_
  subst hF
  have hop : Hold (∀ (h : Hp) (K : Value → Hp → Prop), (∀ gs po' co' pf cf h', (∀ y o, h.own y = some o → h'.own y = some o) → Hold (ShopR (h'.cell? F) gs (sgnA dn s0 s1) (sgnB dn s0 s1) (sgnA dn c0 c1) (sgnB dn c0 c1) pw nw cw po' no co' pf cf dn ws (ordT dn os)) → F.w0.heap.size ≤ gs → h.own gs = none → K (.tuple #[.pointer (some ⟨gs, 0, none⟩), .int .i64 0]) h') → DCall Try.prog F 63 #[.agg #[.bool dn, .int .i64 s0, .int .i64 s1, .int .i64 c0, .int .i64 c1, .slice pw nw cw], .slice po no co] h K) := ⟨fun h K hK => open_K F h K dn s0 s1 c0 c1 pw nw cw ws po no co os (hx.mono fun a u e => Hp.cell_ro e) hb (hy.mono fun a u e => Hp.cell_ro e) hb' he hK⟩
  clear hl1 hl2 sv0 hx hy he
  generalize (ordT dn os) = ox at *
  generalize sgnA dn s0 s1 = a0 at *
  generalize sgnB dn s0 s1 = a1 at *
  generalize sgnA dn c0 c1 = d0 at *
  generalize sgnB dn c0 c1 = d1 at *
  have ab := allN_bd sv.out.ords.1
  obtain ⟨b, off, rfl, rd⟩ := hz.pos hN.1
  have e2 : ((np : Int) > 1000) = False := by simp only [eq_iff_iff, iff_false]; omega
  have e3 : IntKind.i64.wrap ((np : Int) - 1) = (np : Int) - 1 := IntWalk.i64_in _ (by omega)
  have e4 : max (0 : Int) ((np : Int) - 1) = (np : Int) - 1 := by omega
  have hNH := Hold.mk hN
  have has : Hold (∀ ro gs po' co' pf cf, ShopR ro gs a0 a1 d0 d1 pw nw cw po' no co' pf cf dn ws ox → RdS ro (some ⟨b, off, none⟩) np 1 (ints xs) → Cr Try.prog 77 #[.pointer (some ⟨gs, 0, none⟩), .slice (some ⟨b, off, none⟩) np cp] ro (.bool true)) := ⟨fun ro gs po' co' pf cf h h2 => ascend_ok ro gs _ _ _ _ pw nw cw po' no co' pf cf dn ws ox (some ⟨b, off, none⟩) np cp xs h sv h2 hNH ⟨hA⟩ hI⟩
  have hcc : Hold (∀ (fr to : Int), (0 ≤ fr ∧ fr ≤ 400000) ∧ 0 ≤ to ∧ to ≤ 400001 → ∀ ro gs po' co' pf cf, ShopR ro gs a0 a1 d0 d1 pw nw cw po' no co' pf cf dn ws ox → Cr Try.prog 66 #[.pointer (some ⟨gs, 0, none⟩), .int .i64 fr, .int .i64 to] ro (.bool (canV a0 a1 d0 d1 ws ox fr to))) := ⟨fun fr to hbb ro gs po' co' pf cf h => can_ok ro gs _ _ _ _ pw nw cw po' no co' pf cf dn ws ox fr to h sv ⟨by omega⟩⟩
  have hzH := Hold.mk hz
  have hlenH := Hold.mk hlen
  have entH : Hold (∀ i, i < np → ∃ x, xs[i]? = some x ∧ 0 ≤ x ∧ x ≤ 399999 ∧ F.ro ⟨b, off + i, none⟩ = some (.int .i64 x) ∧ xs.drop i = x :: xs.drop (i + 1)) := ⟨fun i hi => by
    have hxi : xs[i]? = some xs[i] := List.getElem?_eq_getElem (by omega)
    have q := allI_mem.1 hI xs[i] (List.getElem_mem _)
    refine ⟨xs[i], hxi, by omega, by omega, ?_, List.drop_eq_getElem_cons (by omega)⟩
    exact readV_get rd i _ (by unfold ints; rw [List.getElem?_map, hxi]; rfl)⟩
  obtain ⟨V, hVd⟩ : ∃ V, V = prvL (canV a0 a1 d0 d1 ws ox) 0 xs := ⟨_, rfl⟩
  rw [← hVd]
  generalize hf : canV a0 a1 d0 d1 ws ox = f at *
  replace hVd := Hold.mk hVd
  clear hz hI ab hlen hN rd hA hf
  (refine DCall.inlP (l := _) Try.func35 Try.ntmps35 rfl rfl (by simp only [seval, List.length_cons, List.length_nil]) (by simp only [seval, List.length_cons, List.length_nil]) ?_; simp only [Try.results35, List.map_cons, List.map_nil])
  repeat' (first | (with_reducible refine at_seq (by with_unfolding_all exact rfl) ?_) | ((with_reducible first | refine at_plain (by with_unfolding_all exact rfl) ?_ | refine at_draw (by with_unfolding_all exact rfl) ?_ | refine at_cond (by with_unfolding_all exact rfl) ?_ | refine at_exit (by with_unfolding_all exact rfl) ?_ | refine at_ret (by with_unfolding_all exact rfl) ?_ | refine at_skip (by with_unfolding_all exact rfl) ?_ | refine at_label (by with_unfolding_all exact rfl) ?_) <;> try simp -implicitDefEqProofs (maxSteps := 1000000) only [go_sem, seval, *]) | (with_reducible first | refine at_block (by with_unfolding_all exact rfl) ?_ | refine at_loop (by with_unfolding_all exact rfl) ?_) | ((first | ((with_reducible refine NewK.intro fun g hg hn => ?_) <;> try simp only [own_none_iff] at hn) | ((with_reducible first | refine GuardB.split (fun hc => ?_) (fun hc => ?_) | refine CondK.split (fun hc => ?_) (fun hc => ?_) | refine PickK.split (fun hc => ?_) (fun hc => ?_) | refine GuardD.split (fun hc => ?_) (fun hc => ?_)) <;> (have hc2 := hc; try simp only [beq_eq_false_iff_ne, beq_iff_eq, ne_eq, bne_iff_ne, bne_eq_false_iff_eq, decide_eq_true_eq, decide_eq_false_iff_not, Bool.not_true, Bool.not_false, Int.not_le, Int.not_lt] at hc2)) | (with_reducible first | refine dop_buildSlice ?_ | refine dop_build ?_) | (with_reducible first | refine stp_build ?_ | refine stp_buildSlice ?_ | refine stp_store ?_ | refine stp_ns ?_) | (with_reducible refine NsB.intro (fun h' ho K' hk => by simp -implicitDefEqProofs (maxSteps := 1000000) only [go_sem, seval, *] <;> exact hk) ?_) | (with_reducible refine WrB.intro _ (by simp -implicitDefEqProofs (maxSteps := 1000000) only [go_sem, seval, *]) (fun h' ho K' hk => by simp -implicitDefEqProofs (maxSteps := 1000000) only [go_sem, seval, *]; exact hk) (fun h' ho K' hk => by simp -implicitDefEqProofs (maxSteps := 1000000) only [go_sem, seval, *] at hk; exact hk) (fun h' ho hk => by simp -implicitDefEqProofs (maxSteps := 1000000) only [go_sem, seval, *] at hk <;> with_unfolding_all exact False.elim hk) ?_) | (with_reducible refine WrB.intro _ (by simp -implicitDefEqProofs (maxSteps := 1000000) only [go_sem, seval, *]) (fun h' ho K' hk => by simp -implicitDefEqProofs (maxSteps := 1000000) only [go_sem, seval, *]; exact hk) ?_) | ((with_reducible refine DDraw.auto mo ?_ ?_); kernel_rfl)) <;> simp -implicitDefEqProofs (maxSteps := 1000000) only [go_sem, seval, *]) | (with_reducible refine bi_same ?_))
  refine hop.out _ _ fun gs po' co' pf cf S f1 hS f3 f4 => ?_
  clear f1 hop
  simp -implicitDefEqProofs (maxSteps := 1000000) only [go_sem, seval, *]
  repeat' (first | (with_reducible refine at_seq (by with_unfolding_all exact rfl) ?_) | ((with_reducible first | refine at_plain (by with_unfolding_all exact rfl) ?_ | refine at_draw (by with_unfolding_all exact rfl) ?_ | refine at_cond (by with_unfolding_all exact rfl) ?_ | refine at_exit (by with_unfolding_all exact rfl) ?_ | refine at_ret (by with_unfolding_all exact rfl) ?_ | refine at_skip (by with_unfolding_all exact rfl) ?_ | refine at_label (by with_unfolding_all exact rfl) ?_) <;> try simp -implicitDefEqProofs (maxSteps := 1000000) only [go_sem, seval, *]) | (with_reducible first | refine at_block (by with_unfolding_all exact rfl) ?_ | refine at_loop (by with_unfolding_all exact rfl) ?_) | ((first | ((with_reducible refine NewK.intro fun g hg hn => ?_) <;> try simp only [own_none_iff] at hn) | ((with_reducible first | refine GuardB.split (fun hc => ?_) (fun hc => ?_) | refine CondK.split (fun hc => ?_) (fun hc => ?_) | refine PickK.split (fun hc => ?_) (fun hc => ?_) | refine GuardD.split (fun hc => ?_) (fun hc => ?_)) <;> (have hc2 := hc; try simp only [beq_eq_false_iff_ne, beq_iff_eq, ne_eq, bne_iff_ne, bne_eq_false_iff_eq, decide_eq_true_eq, decide_eq_false_iff_not, Bool.not_true, Bool.not_false, Int.not_le, Int.not_lt] at hc2)) | (with_reducible first | refine dop_buildSlice ?_ | refine dop_build ?_) | ((with_reducible refine Cr.call (f := 77) (has.out _ _ _ _ _ _ hS.out (hzH.out.mono (fun a u e => Hp.cell_ro e))) ?_)) | (with_reducible refine CallV.of (f := 77) (has.out _ _ _ _ _ _ hS.out (hzH.out.mono (fun a u e => Hp.cell_ro e))) ni77 ?_) | (with_reducible first | refine stp_build ?_ | refine stp_buildSlice ?_ | refine stp_store ?_ | refine stp_ns ?_) | (with_reducible refine NsB.intro (fun h' ho K' hk => by simp -implicitDefEqProofs (maxSteps := 1000000) only [go_sem, seval, *] <;> exact hk) ?_) | (with_reducible refine WrB.intro _ (by simp -implicitDefEqProofs (maxSteps := 1000000) only [go_sem, seval, *]) (fun h' ho K' hk => by simp -implicitDefEqProofs (maxSteps := 1000000) only [go_sem, seval, *]; exact hk) (fun h' ho K' hk => by simp -implicitDefEqProofs (maxSteps := 1000000) only [go_sem, seval, *] at hk; exact hk) (fun h' ho hk => by simp -implicitDefEqProofs (maxSteps := 1000000) only [go_sem, seval, *] at hk <;> with_unfolding_all exact False.elim hk) ?_) | (with_reducible refine WrB.intro _ (by simp -implicitDefEqProofs (maxSteps := 1000000) only [go_sem, seval, *]) (fun h' ho K' hk => by simp -implicitDefEqProofs (maxSteps := 1000000) only [go_sem, seval, *]; exact hk) ?_) | ((with_reducible refine DDraw.auto mo ?_ ?_); kernel_rfl)) <;> simp -implicitDefEqProofs (maxSteps := 1000000) only [go_sem, seval, *]) | (with_reducible refine bi_same ?_))
  have nb0 := hNH.out
  refine DLoop.indW (IPr gs np cp (some ⟨b, off, none⟩) xs S (prvL f) V) (np - 1) ⟨0, _, ⟨by omega⟩, ⟨sub_refl⟩, ⟨hVd.out.symm⟩, fl_re (by kernel_rfl)⟩ ?_
  clear nb0
  (rintro k' a h ⟨i, x, fa0, fa1, fa2, rfl⟩)
  have hj := fa0.out
  have nb := hNH.out
  have i0 : (0 : Int) ≤ (i : Int) := by omega
  by_cases hlt : i + 1 < np
  · have i1 : ((i : Int) < (np : Int) - 1) = True := by simp only [eq_iff_iff, iff_true]; omega
    have i2 : ((i : Int) < (np : Int)) = True := by simp only [eq_iff_iff, iff_true]; omega
    have i4 : (((i + 1 : Nat) : Int) < (np : Int)) = True := by simp only [eq_iff_iff, iff_true]; omega
    have i5 : (0 : Int) ≤ ((i + 1 : Nat) : Int) := by omega
    have iw : IntKind.i64.wrap ((i : Int) + 1) = ((i + 1 : Nat) : Int) := by rw [IntWalk.i64_in _ (by omega)]; push_cast; rfl
    obtain ⟨x, hx1, hx2, hx3, r0, hd1⟩ := entH.out i (by omega)
    obtain ⟨y, hy1, hy2, hy3, r1, hd2⟩ := entH.out (i + 1) hlt
    have yw : IntKind.i64.wrap (y + 1) = y + 1 := IntWalk.i64_in _ (by omega)
    have hJ := fa2.out
    rw [hd1, hd2, prvL, ← hd2] at hJ
    have hcx := Hold.mk (hcc.out x (y + 1) (by omega))
    generalize hv : f x (y + 1) = v at *
    replace hj := Hold.mk hj
    cases v with
    | true =>
      rw [if_pos rfl] at hJ
      subst hJ
      clear hx1 hx2 hx3 hd1 hy1 hy2 hy3 hd2 nb hlt hv
      repeat' (first | (with_reducible refine at_seq (by with_unfolding_all exact rfl) ?_) | ((with_reducible first | refine at_plain (by with_unfolding_all exact rfl) ?_ | refine at_draw (by with_unfolding_all exact rfl) ?_ | refine at_cond (by with_unfolding_all exact rfl) ?_ | refine at_exit (by with_unfolding_all exact rfl) ?_ | refine at_ret (by with_unfolding_all exact rfl) ?_ | refine at_skip (by with_unfolding_all exact rfl) ?_ | refine at_label (by with_unfolding_all exact rfl) ?_) <;> try simp -implicitDefEqProofs (maxSteps := 1000000) only [go_sem, seval, *]) | (with_reducible first | refine at_block (by with_unfolding_all exact rfl) ?_ | refine at_loop (by with_unfolding_all exact rfl) ?_) | ((first | ((with_reducible refine NewK.intro fun g hg hn => ?_) <;> try simp only [own_none_iff] at hn) | ((with_reducible first | refine GuardB.split (fun hc => ?_) (fun hc => ?_) | refine CondK.split (fun hc => ?_) (fun hc => ?_) | refine PickK.split (fun hc => ?_) (fun hc => ?_) | refine GuardD.split (fun hc => ?_) (fun hc => ?_)) <;> (have hc2 := hc; try simp only [beq_eq_false_iff_ne, beq_iff_eq, ne_eq, bne_iff_ne, bne_eq_false_iff_eq, decide_eq_true_eq, decide_eq_false_iff_not, Bool.not_true, Bool.not_false, Int.not_le, Int.not_lt] at hc2)) | (with_reducible first | refine dop_buildSlice ?_ | refine dop_build ?_) | ((with_reducible refine Cr.call (f := 66) (hcx.out _ _ _ _ _ _ (hS.out.mono fun a u e => sub_cell fa1.out e)) ?_)) | (with_reducible refine CallV.of (f := 66) (hcx.out _ _ _ _ _ _ (hS.out.mono fun a u e => sub_cell fa1.out e)) ni66 ?_) | (with_reducible first | refine stp_build ?_ | refine stp_buildSlice ?_ | refine stp_store ?_ | refine stp_ns ?_) | (with_reducible refine NsB.intro (fun h' ho K' hk => by simp -implicitDefEqProofs (maxSteps := 1000000) only [go_sem, seval, *] <;> exact hk) ?_) | (with_reducible refine WrB.intro _ (by simp -implicitDefEqProofs (maxSteps := 1000000) only [go_sem, seval, *]) (fun h' ho K' hk => by simp -implicitDefEqProofs (maxSteps := 1000000) only [go_sem, seval, *]; exact hk) (fun h' ho K' hk => by simp -implicitDefEqProofs (maxSteps := 1000000) only [go_sem, seval, *] at hk; exact hk) (fun h' ho hk => by simp -implicitDefEqProofs (maxSteps := 1000000) only [go_sem, seval, *] at hk <;> with_unfolding_all exact False.elim hk) ?_) | (with_reducible refine WrB.intro _ (by simp -implicitDefEqProofs (maxSteps := 1000000) only [go_sem, seval, *]) (fun h' ho K' hk => by simp -implicitDefEqProofs (maxSteps := 1000000) only [go_sem, seval, *]; exact hk) ?_) | ((with_reducible refine DDraw.auto mo ?_ ?_); kernel_rfl)) <;> simp -implicitDefEqProofs (maxSteps := 1000000) only [go_sem, seval, *]) | (with_reducible refine bi_same ?_))
    | false =>
      rw [if_neg (by decide)] at hJ
      replace hJ := Hold.mk hJ
      clear hx1 hx2 hx3 hd1 hy1 hy2 hy3 hd2 nb hv
      repeat' (first | (with_reducible refine at_seq (by with_unfolding_all exact rfl) ?_) | ((with_reducible first | refine at_plain (by with_unfolding_all exact rfl) ?_ | refine at_draw (by with_unfolding_all exact rfl) ?_ | refine at_cond (by with_unfolding_all exact rfl) ?_ | refine at_exit (by with_unfolding_all exact rfl) ?_ | refine at_ret (by with_unfolding_all exact rfl) ?_ | refine at_skip (by with_unfolding_all exact rfl) ?_ | refine at_label (by with_unfolding_all exact rfl) ?_) <;> try simp -implicitDefEqProofs (maxSteps := 1000000) only [go_sem, seval, *]) | (with_reducible first | refine at_block (by with_unfolding_all exact rfl) ?_ | refine at_loop (by with_unfolding_all exact rfl) ?_) | ((first | ((with_reducible refine NewK.intro fun g hg hn => ?_) <;> try simp only [own_none_iff] at hn) | ((with_reducible first | refine GuardB.split (fun hc => ?_) (fun hc => ?_) | refine CondK.split (fun hc => ?_) (fun hc => ?_) | refine PickK.split (fun hc => ?_) (fun hc => ?_) | refine GuardD.split (fun hc => ?_) (fun hc => ?_)) <;> (have hc2 := hc; try simp only [beq_eq_false_iff_ne, beq_iff_eq, ne_eq, bne_iff_ne, bne_eq_false_iff_eq, decide_eq_true_eq, decide_eq_false_iff_not, Bool.not_true, Bool.not_false, Int.not_le, Int.not_lt] at hc2)) | (with_reducible first | refine dop_buildSlice ?_ | refine dop_build ?_) | ((with_reducible refine Cr.call (f := 66) (hcx.out _ _ _ _ _ _ (hS.out.mono fun a u e => sub_cell fa1.out e)) ?_)) | (with_reducible refine CallV.of (f := 66) (hcx.out _ _ _ _ _ _ (hS.out.mono fun a u e => sub_cell fa1.out e)) ni66 ?_) | (with_reducible first | refine stp_build ?_ | refine stp_buildSlice ?_ | refine stp_store ?_ | refine stp_ns ?_) | (with_reducible refine NsB.intro (fun h' ho K' hk => by simp -implicitDefEqProofs (maxSteps := 1000000) only [go_sem, seval, *] <;> exact hk) ?_) | (with_reducible refine WrB.intro _ (by simp -implicitDefEqProofs (maxSteps := 1000000) only [go_sem, seval, *]) (fun h' ho K' hk => by simp -implicitDefEqProofs (maxSteps := 1000000) only [go_sem, seval, *]; exact hk) (fun h' ho K' hk => by simp -implicitDefEqProofs (maxSteps := 1000000) only [go_sem, seval, *] at hk; exact hk) (fun h' ho hk => by simp -implicitDefEqProofs (maxSteps := 1000000) only [go_sem, seval, *] at hk <;> with_unfolding_all exact False.elim hk) ?_) | (with_reducible refine WrB.intro _ (by simp -implicitDefEqProofs (maxSteps := 1000000) only [go_sem, seval, *]) (fun h' ho K' hk => by simp -implicitDefEqProofs (maxSteps := 1000000) only [go_sem, seval, *]; exact hk) ?_) | ((with_reducible refine DDraw.auto mo ?_ ?_); kernel_rfl)) <;> simp -implicitDefEqProofs (maxSteps := 1000000) only [go_sem, seval, *]) | (with_reducible refine bi_same ?_))
      have hj := hj.out
      exact LoopW.intro (k' - 1) h (by omega) sub_refl ⟨i + 1, _, ⟨by omega⟩, ⟨fa1.out⟩, ⟨hJ.out⟩, fl_re (by kernel_rfl)⟩
  · have i1 : ((i : Int) < (np : Int) - 1) = False := by simp only [eq_iff_iff, iff_false]; omega
    obtain ⟨x, hx1, hx2, hx3, r0, hd1⟩ := entH.out i (by omega)
    have hJ := fa2.out
    have hln := hlenH.out
    rw [hd1, List.drop_eq_nil_of_le (by omega), prvL] at hJ
    subst hJ
    clear hlt i0 hj nb hx1 hx2 hx3 hd1
    repeat' (first | (with_reducible refine at_seq (by with_unfolding_all exact rfl) ?_) | ((with_reducible first | refine at_plain (by with_unfolding_all exact rfl) ?_ | refine at_draw (by with_unfolding_all exact rfl) ?_ | refine at_cond (by with_unfolding_all exact rfl) ?_ | refine at_exit (by with_unfolding_all exact rfl) ?_ | refine at_ret (by with_unfolding_all exact rfl) ?_ | refine at_skip (by with_unfolding_all exact rfl) ?_ | refine at_label (by with_unfolding_all exact rfl) ?_) <;> try simp -implicitDefEqProofs (maxSteps := 1000000) only [go_sem, seval, *]) | (with_reducible first | refine at_block (by with_unfolding_all exact rfl) ?_ | refine at_loop (by with_unfolding_all exact rfl) ?_) | ((first | ((with_reducible refine NewK.intro fun g hg hn => ?_) <;> try simp only [own_none_iff] at hn) | ((with_reducible first | refine GuardB.split (fun hc => ?_) (fun hc => ?_) | refine CondK.split (fun hc => ?_) (fun hc => ?_) | refine PickK.split (fun hc => ?_) (fun hc => ?_) | refine GuardD.split (fun hc => ?_) (fun hc => ?_)) <;> (have hc2 := hc; try simp only [beq_eq_false_iff_ne, beq_iff_eq, ne_eq, bne_iff_ne, bne_eq_false_iff_eq, decide_eq_true_eq, decide_eq_false_iff_not, Bool.not_true, Bool.not_false, Int.not_le, Int.not_lt] at hc2)) | (with_reducible first | refine dop_buildSlice ?_ | refine dop_build ?_) | (with_reducible first | refine stp_build ?_ | refine stp_buildSlice ?_ | refine stp_store ?_ | refine stp_ns ?_) | (with_reducible refine NsB.intro (fun h' ho K' hk => by simp -implicitDefEqProofs (maxSteps := 1000000) only [go_sem, seval, *] <;> exact hk) ?_) | (with_reducible refine WrB.intro _ (by simp -implicitDefEqProofs (maxSteps := 1000000) only [go_sem, seval, *]) (fun h' ho K' hk => by simp -implicitDefEqProofs (maxSteps := 1000000) only [go_sem, seval, *]; exact hk) (fun h' ho K' hk => by simp -implicitDefEqProofs (maxSteps := 1000000) only [go_sem, seval, *] at hk; exact hk) (fun h' ho hk => by simp -implicitDefEqProofs (maxSteps := 1000000) only [go_sem, seval, *] at hk <;> with_unfolding_all exact False.elim hk) ?_) | (with_reducible refine WrB.intro _ (by simp -implicitDefEqProofs (maxSteps := 1000000) only [go_sem, seval, *]) (fun h' ho K' hk => by simp -implicitDefEqProofs (maxSteps := 1000000) only [go_sem, seval, *]; exact hk) ?_) | ((with_reducible refine DDraw.auto mo ?_ ?_); kernel_rfl)) <;> simp -implicitDefEqProofs (maxSteps := 1000000) only [go_sem, seval, *]) | (with_reducible refine bi_same ?_))

end Go.Proofs.Ytlbpfmnobapidaa
