/-
  Walks. Conditions: none.
-/
import Derived.Test.YtlbpfmnobapidaaD11
set_option linter.unusedVariables false
set_option linter.unusedSimpArgs false
namespace Go.Proofs.Ytlbpfmnobapidaa
open Go.RowKit Go.SL
set_option maxHeartbeats 1000000
set_option maxRecDepth 1000000
attribute [local go_sem] fl_getD fl_get fl_set lk_def st_def gL_nil gL_zero gL_succ sL_nil_zero sL_nil_succ sL_zero sL_succ Option.getD_none FgK_app onlyL_nil onlyL_none onlyL_some setO_some toB_bool toB_undef yl_def
attribute [local go_sem high] GuardK_yl GuardL_yl
attribute [local go_sem] initL_one initL_cons lastL_one lastL_cons LastK_app fin_round Fr.inr_w0 Fr.inr_ro Fr.inr_M cell_inr LoopO_some YieldK_some RoundQ_normal RoundQ_ret RoundQ_exit EndR_none EndR_some BegK_app BegR_some OutR_none OutR_ret OutR_exit LeftR_some LeftK_app
attribute [local go_sem] i64w
attribute [local go_sem] dwp_eqGuardE dwp_eqGuardN rval_eqGuardE rval_eqGuardN
attribute [local go_sem] add_none
theorem all0_ok (ro : Addr → Option Value) (gs bf off m cf : Nat) (x : Int) (h7 : ro ⟨gs, 7, none⟩ = some (.slice (some ⟨bf, off, none⟩) (m + 1) cf)) (hx : ro ⟨bf, off + m, none⟩ = some (.int .i64 x)) (hm : m < 1000) :
    Cr Try.prog 64 #[.pointer (some ⟨gs, 0, none⟩)] ro (.int .i64 x) := by
  have w1 : IntKind.i64.wrap (((m + 1 : Nat) : Int) - 1) = (m : Int) := by rw [IntWalk.i64_in _ (by omega)]; omega
  have c0 : (0 : Int) ≤ (m : Int) := by omega
  have c1 : ((m : Int) < ((m + 1 : Nat) : Int)) = True := by simp only [eq_iff_iff, iff_true]; omega
  clear hm
  (refine Cr.ofP (l := _) Try.func64 Try.ntmps64 rfl rfl (by simp only [seval, List.length_cons, List.length_nil]) (by simp only [seval, List.length_cons, List.length_nil]) (fun F hF => ?_); simp only [Try.results64, List.map_cons, List.map_nil])
  subst hF
  repeat' (first | (with_reducible refine at_seq (by with_unfolding_all exact rfl) ?_) | ((with_reducible first | refine at_plain (by with_unfolding_all exact rfl) ?_ | refine at_draw (by with_unfolding_all exact rfl) ?_ | refine at_cond (by with_unfolding_all exact rfl) ?_ | refine at_exit (by with_unfolding_all exact rfl) ?_ | refine at_ret (by with_unfolding_all exact rfl) ?_ | refine at_skip (by with_unfolding_all exact rfl) ?_ | refine at_label (by with_unfolding_all exact rfl) ?_) <;> try simp -implicitDefEqProofs (maxSteps := 1000000) only [go_sem, seval, *]) | (with_reducible first | refine at_block (by with_unfolding_all exact rfl) ?_ | refine at_loop (by with_unfolding_all exact rfl) ?_) | ((first | ((with_reducible refine NewK.intro fun g hg hn => ?_) <;> try simp only [own_none_iff] at hn) | ((with_reducible first | refine GuardB.split (fun hc => ?_) (fun hc => ?_) | refine CondK.split (fun hc => ?_) (fun hc => ?_) | refine PickK.split (fun hc => ?_) (fun hc => ?_) | refine GuardD.split (fun hc => ?_) (fun hc => ?_)) <;> (have hc2 := hc; try simp only [beq_eq_false_iff_ne, beq_iff_eq, ne_eq, bne_iff_ne, bne_eq_false_iff_eq, decide_eq_true_eq, decide_eq_false_iff_not, Bool.not_true, Bool.not_false, Int.not_le, Int.not_lt] at hc2)) | (with_reducible first | refine dop_buildSlice ?_ | refine dop_build ?_) | (with_reducible first | refine stp_build ?_ | refine stp_buildSlice ?_ | refine stp_store ?_ | refine stp_ns ?_) | (with_reducible refine NsB.intro (fun h' ho K' hk => by simp -implicitDefEqProofs (maxSteps := 1000000) only [go_sem, seval, *] <;> exact hk) ?_) | (with_reducible refine WrB.intro _ (by simp -implicitDefEqProofs (maxSteps := 1000000) only [go_sem, seval, *]) (fun h' ho K' hk => by simp -implicitDefEqProofs (maxSteps := 1000000) only [go_sem, seval, *]; exact hk) (fun h' ho K' hk => by simp -implicitDefEqProofs (maxSteps := 1000000) only [go_sem, seval, *] at hk; exact hk) (fun h' ho hk => by simp -implicitDefEqProofs (maxSteps := 1000000) only [go_sem, seval, *] at hk <;> with_unfolding_all exact False.elim hk) ?_) | (with_reducible refine WrB.intro _ (by simp -implicitDefEqProofs (maxSteps := 1000000) only [go_sem, seval, *]) (fun h' ho K' hk => by simp -implicitDefEqProofs (maxSteps := 1000000) only [go_sem, seval, *]; exact hk) ?_) | ((with_reducible refine DDraw.auto mo ?_ ?_); kernel_rfl)) <;> simp -implicitDefEqProofs (maxSteps := 1000000) only [go_sem, seval, *]) | (with_reducible refine bi_same ?_))
theorem drop_sub {h : Hp} {g : Nat} : ∀ y o, (h.drop g).own y = some o → h.own y = some o := by
  intro y o e
  rw [Hp.own_drop] at e
  split at e
  · cases e
  · exact e
/-- The first pieces, up to an order. -/
def fstP (os : List Ord) (i : Nat) : List Int := (List.range (i + 1)).map (fstV os)
theorem fstP_succ (os : List Ord) (i : Nat) : fstP os (i + 1) = fstP os i ++ [fstV os (i + 1)] := by
  unfold fstP
  rw [List.range_succ, List.map_append]
  rfl
theorem fstP_len (os : List Ord) (i : Nat) : (fstP os i).length = i + 1 := by simp [fstP]
theorem fstP_get (os : List Ord) (i : Nat) : (fstP os i)[i]? = some (fstV os i) := by
  unfold fstP
  rw [List.getElem?_map, List.getElem?_range (by omega)]
  rfl
theorem one_agg (x : Int) : ∀ y ∈ [Value.int .i64 x], notAgg y = true := by
  intro y hy
  rw [List.mem_singleton] at hy
  subst hy
  rfl
def IOp (no co : Nat) (po : Option Addr) (gs : Nat) (os : List Ord) (F : Fr) (h0 : Hp) (a0 a1 b0 b1 : Int) (pw : Option Addr) (nw cw : Nat) (u : Value) (dn : Bool) (k' : Nat) (a : Act) (h : Hp) : Prop :=
  ∃ (i : Nat) (v : Value) (x : Nat → Value), Hold (i + k' = no) ∧ Hold (∀ y o, h0.own y = some o → h.own y = some o) ∧ h.own gs = some (.cells #[.bool false, .int .i64 a0, .int .i64 a1, .int .i64 b0, .int .i64 b1, .slice pw nw cw, u, v, .bool dn] 122) ∧ Own F h 3 1 v (i + 1) (ints (fstP os i)) ∧ Hold (∀ b, blk v = some b → h0.own b = none ∧ b ≠ gs) ∧ a = ⟨fl 55 x [[none, none, none, none, none, none, none, some (.pointer (some ⟨gs, 0, none⟩))], [], [none, some (.slice po no co), some (.int .i64 no), some (.int .i64 i)]], []⟩
def sgnA (dn : Bool) (a b : Int) : Int := if dn then -b else a
def sgnB (dn : Bool) (a b : Int) : Int := if dn then -a else b
def ordT (dn : Bool) (os : List Ord) : List Ord := if dn then os.map turnO else os
theorem ordT_fst (dn : Bool) (os : List Ord) (i : Nat) : fstV (ordT dn os) i = fstV os i := by
  unfold ordT
  cases dn with
  | false => rfl
  | true =>
    unfold fstV
    rw [if_pos rfl, ← List.map_take, List.map_map]
    rfl
theorem ordT_len (dn : Bool) (os : List Ord) : (ordT dn os).length = os.length := by
  unfold ordT
  cases dn <;> simp
/-- The same for both kinds of tools: two blocks are left aside. -/
theorem up_U (F : Fr) (h hB : Hp) (K : Value → Hp → Prop) (dn : Bool) (s0 s1 c0 c1 : Int) (pw : Option Addr) (nw cw : Nat) (po : Option Addr) (no co : Nat) (os : List Ord) (gs gF : Nat) (o1 o2 : Obj)
    (hS : ∀ y o, hB.own y = some o → h.own y = some o) (n1 : hB.own gs = none) (n2 : hB.own gF = none) (u1 : h.own gs = some o1) (u2 : h.own gF = some o2)
    (hy : Hold (RdS (hB.cell? F) po no 4 (os.flatMap oC))) (hO : Hold (OrdsOk nw os)) (hn : Hold (os.length = no)) (hA : Hold (AimOk s0 s1 c0 c1))
    (kU : Hold (∀ (pu : Option Addr) (cu : Nat) (h0 h' : Hp), (∀ y o, hB.own y = some o → h0.own y = some o) → (∀ y o, h0.own y = some o → h'.own y = some o) → (∀ y o, h.own y = some o → h'.own y = some o) → h0.own gs = none → h0.own gF = none →
      RdS (h0.cell? F) pu no 4 ((ordT dn os).flatMap oC) →
      K (.tuple #[.agg #[.bool false, .int .i64 (sgnA dn s0 s1), .int .i64 (sgnB dn s0 s1), .int .i64 (sgnA dn c0 c1), .int .i64 (sgnB dn c0 c1), .slice pw nw cw], .slice pu no cu]) h')) :
    DCall Try.prog F 92 #[.agg #[.bool dn, .int .i64 s0, .int .i64 s1, .int .i64 c0, .int .i64 c1, .slice pw nw cw], .slice po no co] h K := by
  refine up_D F h K dn s0 s1 c0 c1 pw nw cw po no co os ⟨hy.out.mono fun a u e => sub_cell hS e⟩ hO hA ⟨fun e => ?_⟩ ⟨fun e u h' k1 k2 k3 => ?_⟩
  · subst e
    exact kU.out po co hB h (fun _ _ e => e) hS (fun _ _ e => e) n1 n2 hy.out
  · subst e
    have hp : 0 < no := by have := hO.out.len; have := hn.out; omega
    have b1 : blk u ≠ some gs := fun e => by have := k3 gs e; rw [u1] at this; cases this
    have b2 : blk u ≠ some gF := fun e => by have := k3 gF e; rw [u2] at this; cases this
    have o' := (k2.drop b1).drop b2
    obtain ⟨g, cap, rfl, rd⟩ := o'.some hp
    refine kU.out (some ⟨g, 0, none⟩) cap ((h'.drop gs).drop gF) h' (fun y o e => ?_) (fun y o e => ?_) k1 ?_ ?_ (RdS.of rd)
    · rw [Hp.own_drop, if_neg, Hp.own_drop, if_neg]
      · exact k1 y o (hS y o e)
      · rintro rfl; rw [n1] at e; cases e
      · rintro rfl; rw [n2] at e; cases e
    · rw [Hp.own_drop] at e
      split at e
      · cases e
      · rw [Hp.own_drop] at e
        split at e
        · cases e
        · exact e
    · rw [Hp.own_drop]
      split
      · rfl
      · rw [Hp.own_drop, if_pos rfl]
    · rw [Hp.own_drop, if_pos rfl]
set_option maxHeartbeats 8000000 in
theorem open_D (F : Fr) (h : Hp) (K : Value → Hp → Prop) (dn : Bool) (s0 s1 c0 c1 : Int) (pw : Option Addr) (nw cw : Nat) (ws : List (Int × Int)) (po : Option Addr) (no co : Nat) (os : List Ord)
    (hx : Hold (RdS (h.cell? F) pw nw 2 (ws.flatMap spC))) (hb : Hold (nw < 9223372036854775808)) (hy : Hold (RdS (h.cell? F) po no 4 (os.flatMap oC))) (hb' : Hold (no < 9223372036854775808))
    (hV : Hold (chkV s0 s1 c0 c1 ws os = 0 → ShopB s0 s1 c0 c1 nw no ws os))
    (hE : Hold (chkV s0 s1 c0 c1 ws os ≠ 0 → K (.tuple #[.pointer none, .int .i64 (chkV s0 s1 c0 c1 ws os)]) h))
    (hK : Hold (chkV s0 s1 c0 c1 ws os = 0 → ∀ gs po' co' pf cf h', (∀ y o, h.own y = some o → h'.own y = some o) →
      ShopR (h'.cell? F) gs (sgnA dn s0 s1) (sgnB dn s0 s1) (sgnA dn c0 c1) (sgnB dn c0 c1) pw nw cw po' no co' pf cf dn ws (ordT dn os) → F.w0.heap.size ≤ gs → h.own gs = none → K (.tuple #[.pointer (some ⟨gs, 0, none⟩), .int .i64 0]) h')) :
    DCall Try.prog F 63 #[.agg #[.bool dn, .int .i64 s0, .int .i64 s1, .int .i64 c0, .int .i64 c1, .slice pw nw cw], .slice po no co] h K := by
  refine DCall.weak ?_
  have cC : Hold (∀ ro, RdS ro pw nw 2 (ws.flatMap spC) → RdS ro po no 4 (os.flatMap oC) → Cr Try.prog 17 #[.agg #[.bool dn, .int .i64 s0, .int .i64 s1, .int .i64 c0, .int .i64 c1, .slice pw nw cw], .slice po no co] ro (.int .i64 (chkV s0 s1 c0 c1 ws os))) := ⟨fun ro h1 h2 => Check_ok ro dn s0 s1 c0 c1 pw nw cw ws po no co os h1 hb h2 hb'⟩
  by_cases hz : chkV s0 s1 c0 c1 ws os = 0
  · have kf := Hold.mk (hK.out hz)
    have sv := Hold.mk (hV.out hz)
    rw [hz] at cC
    clear hz hE hK hV
    (refine DCall.inlP (l := _) Try.func63 Try.ntmps63 rfl rfl (by simp only [seval, List.length_cons, List.length_nil]) (by simp only [seval, List.length_cons, List.length_nil]) ?_; simp only [Try.results63, List.map_cons, List.map_nil])
    repeat' (first | (with_reducible refine at_seq (by with_unfolding_all exact rfl) ?_) | ((with_reducible first | refine at_plain (by with_unfolding_all exact rfl) ?_ | refine at_draw (by with_unfolding_all exact rfl) ?_ | refine at_cond (by with_unfolding_all exact rfl) ?_ | refine at_exit (by with_unfolding_all exact rfl) ?_ | refine at_ret (by with_unfolding_all exact rfl) ?_ | refine at_skip (by with_unfolding_all exact rfl) ?_ | refine at_label (by with_unfolding_all exact rfl) ?_) <;> try simp -implicitDefEqProofs (maxSteps := 1000000) only [go_sem, seval, *]) | (with_reducible first | refine at_block (by with_unfolding_all exact rfl) ?_ | refine at_loop (by with_unfolding_all exact rfl) ?_) | ((first | ((with_reducible refine NewK.intro fun g hg hn => ?_) <;> try simp only [own_none_iff] at hn) | ((with_reducible first | refine GuardB.split (fun hc => ?_) (fun hc => ?_) | refine CondK.split (fun hc => ?_) (fun hc => ?_) | refine PickK.split (fun hc => ?_) (fun hc => ?_) | refine GuardD.split (fun hc => ?_) (fun hc => ?_)) <;> (have hc2 := hc; try simp only [beq_eq_false_iff_ne, beq_iff_eq, ne_eq, bne_iff_ne, bne_eq_false_iff_eq, decide_eq_true_eq, decide_eq_false_iff_not, Bool.not_true, Bool.not_false, Int.not_le, Int.not_lt] at hc2)) | (with_reducible first | refine dop_buildSlice ?_ | refine dop_build ?_) | ((with_reducible refine Cr.call (f := 17) (cC.out _ (hx.out.mono fun a u e => sub_cell (sub_setN (by assumption)) e) (hy.out.mono fun a u e => sub_cell (sub_setN (by assumption)) e)) ?_)) | (with_reducible refine CallV.of (f := 17) (cC.out _ (hx.out.mono fun a u e => sub_cell (sub_setN (by assumption)) e) (hy.out.mono fun a u e => sub_cell (sub_setN (by assumption)) e)) ni17 ?_) | ((with_reducible refine DDraw.told (id := 9) [4] [.tmp 7] mo ?_ ?_); kernel_rfl) | (with_reducible first | refine stp_build ?_ | refine stp_buildSlice ?_ | refine stp_store ?_ | refine stp_ns ?_) | (with_reducible refine NsB.intro (fun h' ho K' hk => by simp -implicitDefEqProofs (maxSteps := 1000000) only [go_sem, seval, *] <;> exact hk) ?_) | (with_reducible refine WrB.intro _ (by simp -implicitDefEqProofs (maxSteps := 1000000) only [go_sem, seval, *]) (fun h' ho K' hk => by simp -implicitDefEqProofs (maxSteps := 1000000) only [go_sem, seval, *]; exact hk) (fun h' ho K' hk => by simp -implicitDefEqProofs (maxSteps := 1000000) only [go_sem, seval, *] at hk; exact hk) (fun h' ho hk => by simp -implicitDefEqProofs (maxSteps := 1000000) only [go_sem, seval, *] at hk <;> with_unfolding_all exact False.elim hk) ?_) | (with_reducible refine WrB.intro _ (by simp -implicitDefEqProofs (maxSteps := 1000000) only [go_sem, seval, *]) (fun h' ho K' hk => by simp -implicitDefEqProofs (maxSteps := 1000000) only [go_sem, seval, *]; exact hk) ?_) | ((with_reducible refine DDraw.auto mo ?_ ?_); kernel_rfl)) <;> simp -implicitDefEqProofs (maxSteps := 1000000) only [go_sem, seval, *]) | (with_reducible refine bi_same ?_))
    rename_i g2 hg2 hn2 gF hgF hnF
    generalize hgg : g = gs at *
    clear hgg
    refine up_U F _ (h.set g2 (.cells #[.bool dn, .int .i64 s0, .int .i64 s1, .int .i64 c0, .int .i64 c1, .slice pw nw cw] 26)) _ dn s0 s1 c0 c1 pw nw cw po no co os gs gF _ _ ?_ (by simp -implicitDefEqProofs (maxSteps := 1000000) only [go_sem, seval, *]) (by simp -implicitDefEqProofs (maxSteps := 1000000) only [go_sem, seval, *]) (by simp -implicitDefEqProofs (maxSteps := 1000000) only [go_sem, seval, *]; rfl) (by simp -implicitDefEqProofs (maxSteps := 1000000) only [go_sem, seval, *]; rfl) ⟨hy.out.mono fun a u e => sub_cell (sub_setN hn2) e⟩ ⟨sv.out.ords.1⟩ ⟨sv.out.ords.2⟩ ⟨sv.out.aim⟩ ⟨fun pu cu h0 h' f1 f2 f3 f4 f5 f6 => ?_⟩
    · intro y o e
      have := own_ne e
      simp -implicitDefEqProofs (maxSteps := 1000000) only [go_sem, seval, *]
    have us := f3 gs _ (by rw [Hp.own_set, if_pos rfl])
    have uF := f3 gF _ (by rw [Hp.own_set, if_neg hn.2.1, Hp.own_set, if_pos rfl])
    have vs := own_ne us
    have nsF : gs ≠ gF ∧ gF ≠ gs := ⟨hn.1, hn.2.1⟩
    have fB : ∀ y o, h.own y = some o → h0.own y = some o := fun y o e => f1 y o (sub_setN hn2 y o e)
    have hnone : h.own gs = none := hn.2.2.2.2
    clear f1 f3 hn hn2 hnF
    replace f6 := Hold.mk f6
    simp -implicitDefEqProofs (maxSteps := 1000000) only [go_sem, seval, *]
    repeat' (first | (with_reducible refine at_seq (by with_unfolding_all exact rfl) ?_) | ((with_reducible first | refine at_plain (by with_unfolding_all exact rfl) ?_ | refine at_draw (by with_unfolding_all exact rfl) ?_ | refine at_cond (by with_unfolding_all exact rfl) ?_ | refine at_exit (by with_unfolding_all exact rfl) ?_ | refine at_ret (by with_unfolding_all exact rfl) ?_ | refine at_skip (by with_unfolding_all exact rfl) ?_ | refine at_label (by with_unfolding_all exact rfl) ?_) <;> try simp -implicitDefEqProofs (maxSteps := 1000000) only [go_sem, seval, *]) | (with_reducible first | refine at_block (by with_unfolding_all exact rfl) ?_ | refine at_loop (by with_unfolding_all exact rfl) ?_) | ((first | ((with_reducible refine NewK.intro fun g hg hn => ?_) <;> try simp only [own_none_iff] at hn) | ((with_reducible first | refine GuardB.split (fun hc => ?_) (fun hc => ?_) | refine CondK.split (fun hc => ?_) (fun hc => ?_) | refine PickK.split (fun hc => ?_) (fun hc => ?_) | refine GuardD.split (fun hc => ?_) (fun hc => ?_)) <;> (have hc2 := hc; try simp only [beq_eq_false_iff_ne, beq_iff_eq, ne_eq, bne_iff_ne, bne_eq_false_iff_eq, decide_eq_true_eq, decide_eq_false_iff_not, Bool.not_true, Bool.not_false, Int.not_le, Int.not_lt] at hc2)) | (with_reducible first | refine dop_buildSlice ?_ | refine dop_build ?_) | ((with_reducible refine DDraw.told (id := 9) [4] [.tmp 7] mo ?_ ?_); kernel_rfl) | (with_reducible first | refine stp_build ?_ | refine stp_buildSlice ?_ | refine stp_store ?_ | refine stp_ns ?_) | (with_reducible refine NsB.intro (fun h' ho K' hk => by simp -implicitDefEqProofs (maxSteps := 1000000) only [go_sem, seval, *] <;> exact hk) ?_) | (with_reducible refine WrB.intro _ (by simp -implicitDefEqProofs (maxSteps := 1000000) only [go_sem, seval, *]) (fun h' ho K' hk => by simp -implicitDefEqProofs (maxSteps := 1000000) only [go_sem, seval, *]; exact hk) (fun h' ho K' hk => by simp -implicitDefEqProofs (maxSteps := 1000000) only [go_sem, seval, *] at hk; exact hk) (fun h' ho hk => by simp -implicitDefEqProofs (maxSteps := 1000000) only [go_sem, seval, *] at hk <;> with_unfolding_all exact False.elim hk) ?_) | (with_reducible refine WrB.intro _ (by simp -implicitDefEqProofs (maxSteps := 1000000) only [go_sem, seval, *]) (fun h' ho K' hk => by simp -implicitDefEqProofs (maxSteps := 1000000) only [go_sem, seval, *]; exact hk) ?_) | ((with_reducible refine DDraw.auto mo ?_ ?_); kernel_rfl)) <;> simp -implicitDefEqProofs (maxSteps := 1000000) only [go_sem, seval, *]) | (with_reducible refine bi_same ?_))
    have f0 : ints (fstP os 0) = [.int .i64 0] := by simp [fstP, fstV_zero, ints]
    have hlen := hy.out.count oC_len (by decide)
    have l40 := Hold.mk sv.out.ords.1.len
    refine DLoop.indW (IOp no co po gs os F h0 (sgnA dn s0 s1) (sgnB dn s0 s1) (sgnA dn c0 c1) (sgnB dn c0 c1) pw nw cw (.slice pu no cu) dn) no ⟨0, .slice (some ⟨gF, 0, none⟩) 1 1, _, ⟨by omega⟩, ⟨subS f2 f4⟩, (by simp -implicitDefEqProofs (maxSteps := 1000000) only [go_sem, seval, *]), (by rw [f0]; exact Own.made hgF (by simp -implicitDefEqProofs (maxSteps := 1000000) only [go_sem, seval, *]) rfl), ⟨fun b e => by cases e; exact ⟨f5, nsF.2⟩⟩, fl_re (by kernel_rfl)⟩ ?_
    clear f0 f2 us uF vs
    generalize hhh : h = hB at *
    clear hhh
    (rintro k' a h ⟨i, v, x, fa0, fa1, fa2, fa3, fa4, rfl⟩)
    have hj := fa0.out
    have vs := own_ne fa2
    have i0 : (0 : Int) ≤ (i : Int) := by omega
    by_cases hlt : i < no
    · have i1 : ((i : Int) < (no : Int)) = True := by simp only [eq_iff_iff, iff_true]; omega
      have n40 := l40.out
      have iw : IntKind.i64.wrap ((i : Int) + 1) = ((i + 1 : Nat) : Int) := by rw [IntWalk.i64_in _ (by omega)]; push_cast; rfl
      have hxi : os[i]? = some os[i] := List.getElem?_eq_getElem (by omega)
      have hyh := hy.out.mono fun a u e => sub_cell (h' := h) (fun y o e => fa1.out y o (fB y o e)) e
      obtain ⟨b, off, rfl, hro⟩ := hyh.at oC_len hlt hxi
      have r0 := hro 0 _ rfl
      have r1 := hro 1 _ rfl
      have r2 := hro 2 _ rfl
      have r3 := hro 3 _ rfl
      rw [Nat.add_zero] at r0
      have fs := fstV_succ hxi
      have bd0 := fstV_bd sv.out.ords.1 i (by omega)
      have bd1 := fstV_bd sv.out.ords.1 (i + 1) (by omega)
      have w5 : IntKind.i64.wrap (fstV os i + os[i].pc) = fstV os (i + 1) := by rw [← fs]; exact IntWalk.i64_in _ (by omega)
      obtain ⟨gv, cap, rfl, rd⟩ := fa3.some (by omega)
      have rdi := readV_get rd i (.int .i64 (fstV os i)) (by unfold ints; rw [List.getElem?_map, fstP_get]; rfl)
      have hv := fa4.out gv rfl
      generalize os[i] = o at *
      obtain ⟨ov, hov⟩ := fa3.owned gv rfl
      have nv := own_ne hov
      have sgv : gs ≠ gv ∧ gv ≠ gs := ⟨Ne.symm hv.2, hv.2⟩
      replace hj := Hold.mk hj
      replace rdi := Hold.mk rdi
      have pno : Hold (no ≤ 40) := ⟨by omega⟩
      clear hro hyh hxi bd0 bd1 fs n40 rd
      repeat' (first | (with_reducible refine at_seq (by with_unfolding_all exact rfl) ?_) | ((with_reducible first | refine at_plain (by with_unfolding_all exact rfl) ?_ | refine at_draw (by with_unfolding_all exact rfl) ?_ | refine at_cond (by with_unfolding_all exact rfl) ?_ | refine at_exit (by with_unfolding_all exact rfl) ?_ | refine at_ret (by with_unfolding_all exact rfl) ?_ | refine at_skip (by with_unfolding_all exact rfl) ?_ | refine at_label (by with_unfolding_all exact rfl) ?_) <;> try simp -implicitDefEqProofs (maxSteps := 1000000) only [go_sem, seval, *]) | (with_reducible first | refine at_block (by with_unfolding_all exact rfl) ?_ | refine at_loop (by with_unfolding_all exact rfl) ?_) | ((first | ((with_reducible refine DDraw.lastS (id := 9) [6] (Hp.drop _ gv) mo ?_ drop_sub ?_); kernel_rfl) | ((with_reducible refine NewK.intro fun g hg hn => ?_) <;> try simp only [own_none_iff] at hn) | ((with_reducible first | refine GuardB.split (fun hc => ?_) (fun hc => ?_) | refine CondK.split (fun hc => ?_) (fun hc => ?_) | refine PickK.split (fun hc => ?_) (fun hc => ?_) | refine GuardD.split (fun hc => ?_) (fun hc => ?_)) <;> (have hc2 := hc; try simp only [beq_eq_false_iff_ne, beq_iff_eq, ne_eq, bne_iff_ne, bne_eq_false_iff_eq, decide_eq_true_eq, decide_eq_false_iff_not, Bool.not_true, Bool.not_false, Int.not_le, Int.not_lt] at hc2)) | (with_reducible first | refine dop_buildSlice ?_ | refine dop_build ?_) | ((with_reducible refine DDraw.told (id := 9) [4] [.tmp 7] mo ?_ ?_); kernel_rfl) | (with_reducible first | refine stp_build ?_ | refine stp_buildSlice ?_ | refine stp_store ?_ | refine stp_ns ?_) | (with_reducible refine NsB.intro (fun h' ho K' hk => by simp -implicitDefEqProofs (maxSteps := 1000000) only [go_sem, seval, *] <;> exact hk) ?_) | (with_reducible refine WrB.intro _ (by simp -implicitDefEqProofs (maxSteps := 1000000) only [go_sem, seval, *]) (fun h' ho K' hk => by simp -implicitDefEqProofs (maxSteps := 1000000) only [go_sem, seval, *]; exact hk) (fun h' ho K' hk => by simp -implicitDefEqProofs (maxSteps := 1000000) only [go_sem, seval, *] at hk; exact hk) (fun h' ho hk => by simp -implicitDefEqProofs (maxSteps := 1000000) only [go_sem, seval, *] at hk <;> with_unfolding_all exact False.elim hk) ?_) | (with_reducible refine WrB.intro _ (by simp -implicitDefEqProofs (maxSteps := 1000000) only [go_sem, seval, *]) (fun h' ho K' hk => by simp -implicitDefEqProofs (maxSteps := 1000000) only [go_sem, seval, *]; exact hk) ?_) | ((with_reducible refine DDraw.auto mo ?_ ?_); kernel_rfl)) <;> simp -implicitDefEqProofs (maxSteps := 1000000) only [go_sem, seval, *]) | (with_reducible refine bi_same ?_))
      generalize hgg : g = g9 at *
      clear hgg
      have n9 := hn
      refine stp_rob (f := 64) (args := #[.pointer (some ⟨gs, 0, none⟩)]) (by simp -implicitDefEqProofs (maxSteps := 1000000) only [go_sem, seval, *]) fun hi => RobK.zero (fun h1 hs => all0_ok _ gs gv 0 i cap (fstV os i) ?_ ?_ ?_) hi ?_
      · have q := hs gs _ (by rw [Hp.own_set, if_neg (vs g9 n9).1]; exact fa2)
        clear hs
        simp -implicitDefEqProofs (maxSteps := 1000000) only [go_sem, seval, *]
      · exact sub_cell (fun y o e => hs y o (sub_setN n9 y o e)) rdi.out
      · have := pno.out; omega
      clear hi
      simp -implicitDefEqProofs (maxSteps := 1000000) only [go_sem, seval, *]
      repeat' (first | (with_reducible refine at_seq (by with_unfolding_all exact rfl) ?_) | ((with_reducible first | refine at_plain (by with_unfolding_all exact rfl) ?_ | refine at_draw (by with_unfolding_all exact rfl) ?_ | refine at_cond (by with_unfolding_all exact rfl) ?_ | refine at_exit (by with_unfolding_all exact rfl) ?_ | refine at_ret (by with_unfolding_all exact rfl) ?_ | refine at_skip (by with_unfolding_all exact rfl) ?_ | refine at_label (by with_unfolding_all exact rfl) ?_) <;> try simp -implicitDefEqProofs (maxSteps := 1000000) only [go_sem, seval, *]) | (with_reducible first | refine at_block (by with_unfolding_all exact rfl) ?_ | refine at_loop (by with_unfolding_all exact rfl) ?_) | ((first | ((with_reducible refine NewK.intro fun g hg hn => ?_) <;> try simp only [own_none_iff] at hn) | ((with_reducible first | refine GuardB.split (fun hc => ?_) (fun hc => ?_) | refine CondK.split (fun hc => ?_) (fun hc => ?_) | refine PickK.split (fun hc => ?_) (fun hc => ?_) | refine GuardD.split (fun hc => ?_) (fun hc => ?_)) <;> (have hc2 := hc; try simp only [beq_eq_false_iff_ne, beq_iff_eq, ne_eq, bne_iff_ne, bne_eq_false_iff_eq, decide_eq_true_eq, decide_eq_false_iff_not, Bool.not_true, Bool.not_false, Int.not_le, Int.not_lt] at hc2)) | (with_reducible first | refine dop_buildSlice ?_ | refine dop_build ?_) | ((with_reducible refine DDraw.told (id := 9) [4] [.tmp 7] mo ?_ ?_); kernel_rfl) | (with_reducible first | refine stp_build ?_ | refine stp_buildSlice ?_ | refine stp_store ?_ | refine stp_ns ?_) | (with_reducible refine NsB.intro (fun h' ho K' hk => by simp -implicitDefEqProofs (maxSteps := 1000000) only [go_sem, seval, *] <;> exact hk) ?_) | (with_reducible refine WrB.intro _ (by simp -implicitDefEqProofs (maxSteps := 1000000) only [go_sem, seval, *]) (fun h' ho K' hk => by simp -implicitDefEqProofs (maxSteps := 1000000) only [go_sem, seval, *]; exact hk) (fun h' ho K' hk => by simp -implicitDefEqProofs (maxSteps := 1000000) only [go_sem, seval, *] at hk; exact hk) (fun h' ho hk => by simp -implicitDefEqProofs (maxSteps := 1000000) only [go_sem, seval, *] at hk <;> with_unfolding_all exact False.elim hk) ?_) | (with_reducible refine WrB.intro _ (by simp -implicitDefEqProofs (maxSteps := 1000000) only [go_sem, seval, *]) (fun h' ho K' hk => by simp -implicitDefEqProofs (maxSteps := 1000000) only [go_sem, seval, *]; exact hk) ?_) | ((with_reducible refine DDraw.auto mo ?_ ?_); kernel_rfl)) <;> simp -implicitDefEqProofs (maxSteps := 1000000) only [go_sem, seval, *]) | (with_reducible refine bi_same ?_))
      have gl := hn.2.2
      refine AppD.draw Try.underlying52 inf_int (by decide) (by decide) (fa3.kept fun b ob _ e2 => subS (subS sub_refl n9) gl b ob e2) (ys := [.int .i64 (fstV os (i + 1))]) (by simp -implicitDefEqProofs (maxSteps := 1000000) only [go_sem, seval, *]) (one_agg _) (by have := pno.out; omega) (fun b e => by cases e; rw [Hp.own_drop, if_pos rfl]) fun u gA obA hA bA r1 => ?_
      have nA : gA ≠ g9 ∧ gA ≠ g ∧ h0.own gA = none ∧ gA ≠ gs := by
        rcases hA with e | ⟨e, _⟩
        · cases e
          exact ⟨(nv g9 n9).1, (nv g gl).1, hv⟩
        · simp only [own_none_iff] at e
          exact ⟨e.2.2.1, e.1, kept_none fa1.out e.2.2.2.2, (vs gA e.2.2.2.2).2⟩
      have ngA : gs ≠ gA ∧ gA ≠ gs := ⟨Ne.symm nA.2.2.2, nA.2.2.2⟩
      obtain ⟨pv, cv, rfl⟩ := r1.len
      replace r1 := Hold.mk (Own.at_ (h' := (h.set gA obA).set gs (.cells #[.bool false, .int .i64 (sgnA dn s0 s1), .int .i64 (sgnB dn s0 s1), .int .i64 (sgnA dn c0 c1), .int .i64 (sgnB dn c0 c1), .slice pw nw cw, .slice pu no cu, .slice pv (i + 1 + 1) cv, .bool dn] 122)) r1 bA (by rw [Hp.own_set, if_neg ngA.2, Hp.own_set, if_pos rfl, Hp.own_set, if_pos rfl]))
      clear hA fa3 fa4
      simp -implicitDefEqProofs (maxSteps := 1000000) only [go_sem, seval, *]
      repeat' (first | (with_reducible refine at_seq (by with_unfolding_all exact rfl) ?_) | ((with_reducible first | refine at_plain (by with_unfolding_all exact rfl) ?_ | refine at_draw (by with_unfolding_all exact rfl) ?_ | refine at_cond (by with_unfolding_all exact rfl) ?_ | refine at_exit (by with_unfolding_all exact rfl) ?_ | refine at_ret (by with_unfolding_all exact rfl) ?_ | refine at_skip (by with_unfolding_all exact rfl) ?_ | refine at_label (by with_unfolding_all exact rfl) ?_) <;> try simp -implicitDefEqProofs (maxSteps := 1000000) only [go_sem, seval, *]) | (with_reducible first | refine at_block (by with_unfolding_all exact rfl) ?_ | refine at_loop (by with_unfolding_all exact rfl) ?_) | ((first | ((with_reducible refine NewK.intro fun g hg hn => ?_) <;> try simp only [own_none_iff] at hn) | ((with_reducible first | refine GuardB.split (fun hc => ?_) (fun hc => ?_) | refine CondK.split (fun hc => ?_) (fun hc => ?_) | refine PickK.split (fun hc => ?_) (fun hc => ?_) | refine GuardD.split (fun hc => ?_) (fun hc => ?_)) <;> (have hc2 := hc; try simp only [beq_eq_false_iff_ne, beq_iff_eq, ne_eq, bne_iff_ne, bne_eq_false_iff_eq, decide_eq_true_eq, decide_eq_false_iff_not, Bool.not_true, Bool.not_false, Int.not_le, Int.not_lt] at hc2)) | (with_reducible first | refine dop_buildSlice ?_ | refine dop_build ?_) | ((with_reducible refine DDraw.told (id := 9) [4] [.tmp 7] mo ?_ ?_); kernel_rfl) | (with_reducible first | refine stp_build ?_ | refine stp_buildSlice ?_ | refine stp_store ?_ | refine stp_ns ?_) | (with_reducible refine NsB.intro (fun h' ho K' hk => by simp -implicitDefEqProofs (maxSteps := 1000000) only [go_sem, seval, *] <;> exact hk) ?_) | (with_reducible refine WrB.intro _ (by simp -implicitDefEqProofs (maxSteps := 1000000) only [go_sem, seval, *]) (fun h' ho K' hk => by simp -implicitDefEqProofs (maxSteps := 1000000) only [go_sem, seval, *]; exact hk) (fun h' ho K' hk => by simp -implicitDefEqProofs (maxSteps := 1000000) only [go_sem, seval, *] at hk; exact hk) (fun h' ho hk => by simp -implicitDefEqProofs (maxSteps := 1000000) only [go_sem, seval, *] at hk <;> with_unfolding_all exact False.elim hk) ?_) | (with_reducible refine WrB.intro _ (by simp -implicitDefEqProofs (maxSteps := 1000000) only [go_sem, seval, *]) (fun h' ho K' hk => by simp -implicitDefEqProofs (maxSteps := 1000000) only [go_sem, seval, *]; exact hk) ?_) | ((with_reducible refine DDraw.auto mo ?_ ?_); kernel_rfl)) <;> simp -implicitDefEqProofs (maxSteps := 1000000) only [go_sem, seval, *]) | (with_reducible refine bi_same ?_))
      have hj := hj.out
      refine LoopW.intro (k' - 1) ((h.set gA obA).set gs (.cells #[.bool false, .int .i64 (sgnA dn s0 s1), .int .i64 (sgnB dn s0 s1), .int .i64 (sgnA dn c0 c1), .int .i64 (sgnB dn c0 c1), .slice pw nw cw, .slice pu no cu, .slice pv (i + 1 + 1) cv, .bool dn] 122)) (by omega) ?_ ⟨i + 1, .slice pv (i + 1 + 1) cv, _, ⟨by omega⟩, ⟨subS (subS fa1.out nA.2.2.1) f4⟩, (by rw [Hp.own_set, if_pos rfl]), (by rw [fstP_succ, ints_snoc]; exact r1.out), ⟨fun b e => by rw [bA] at e; cases e; exact ⟨nA.2.2.1, nA.2.2.2⟩⟩, fl_re (by kernel_rfl)⟩
      intro y oy e
      rw [Hp.own_set] at e ⊢
      split at e
      · rename_i q; rw [if_pos q]; exact e
      · rename_i q
        rw [if_neg q]
        rw [Hp.own_set] at e ⊢
        split at e
        · rename_i q2; rw [if_pos q2]; exact e
        · rename_i q2
          rw [if_neg q2]
          exact subS (subS sub_refl n9) gl y oy e
    · have i1 : ((i : Int) < (no : Int)) = False := by simp only [eq_iff_iff, iff_false]; omega
      have hjn : no = i := by omega
      subst hjn
      clear hlt i0 hj
      repeat' (first | (with_reducible refine at_seq (by with_unfolding_all exact rfl) ?_) | ((with_reducible first | refine at_plain (by with_unfolding_all exact rfl) ?_ | refine at_draw (by with_unfolding_all exact rfl) ?_ | refine at_cond (by with_unfolding_all exact rfl) ?_ | refine at_exit (by with_unfolding_all exact rfl) ?_ | refine at_ret (by with_unfolding_all exact rfl) ?_ | refine at_skip (by with_unfolding_all exact rfl) ?_ | refine at_label (by with_unfolding_all exact rfl) ?_) <;> try simp -implicitDefEqProofs (maxSteps := 1000000) only [go_sem, seval, *]) | (with_reducible first | refine at_block (by with_unfolding_all exact rfl) ?_ | refine at_loop (by with_unfolding_all exact rfl) ?_) | ((first | ((with_reducible refine NewK.intro fun g hg hn => ?_) <;> try simp only [own_none_iff] at hn) | ((with_reducible first | refine GuardB.split (fun hc => ?_) (fun hc => ?_) | refine CondK.split (fun hc => ?_) (fun hc => ?_) | refine PickK.split (fun hc => ?_) (fun hc => ?_) | refine GuardD.split (fun hc => ?_) (fun hc => ?_)) <;> (have hc2 := hc; try simp only [beq_eq_false_iff_ne, beq_iff_eq, ne_eq, bne_iff_ne, bne_eq_false_iff_eq, decide_eq_true_eq, decide_eq_false_iff_not, Bool.not_true, Bool.not_false, Int.not_le, Int.not_lt] at hc2)) | (with_reducible first | refine dop_buildSlice ?_ | refine dop_build ?_) | ((with_reducible refine DDraw.told (id := 9) [4] [.tmp 7] mo ?_ ?_); kernel_rfl) | (with_reducible first | refine stp_build ?_ | refine stp_buildSlice ?_ | refine stp_store ?_ | refine stp_ns ?_) | (with_reducible refine NsB.intro (fun h' ho K' hk => by simp -implicitDefEqProofs (maxSteps := 1000000) only [go_sem, seval, *] <;> exact hk) ?_) | (with_reducible refine WrB.intro _ (by simp -implicitDefEqProofs (maxSteps := 1000000) only [go_sem, seval, *]) (fun h' ho K' hk => by simp -implicitDefEqProofs (maxSteps := 1000000) only [go_sem, seval, *]; exact hk) (fun h' ho K' hk => by simp -implicitDefEqProofs (maxSteps := 1000000) only [go_sem, seval, *] at hk; exact hk) (fun h' ho hk => by simp -implicitDefEqProofs (maxSteps := 1000000) only [go_sem, seval, *] at hk <;> with_unfolding_all exact False.elim hk) ?_) | (with_reducible refine WrB.intro _ (by simp -implicitDefEqProofs (maxSteps := 1000000) only [go_sem, seval, *]) (fun h' ho K' hk => by simp -implicitDefEqProofs (maxSteps := 1000000) only [go_sem, seval, *]; exact hk) ?_) | ((with_reducible refine DDraw.auto mo ?_ ?_); kernel_rfl)) <;> simp -implicitDefEqProofs (maxSteps := 1000000) only [go_sem, seval, *]) | (with_reducible refine bi_same ?_))
      obtain ⟨gv, cap, rfl, rd⟩ := fa3.some (by omega)
      have hv := fa4.out gv rfl
      have t0 := fa2
      have lf : fstL (ordT dn os) = fstP os no := by
        unfold fstL fstP
        rw [ordT_len, hlen]
        refine List.map_congr_left fun i _ => ordT_fst dn os i
      refine ⟨h, sub_refl, kf.out gs pu cu (some ⟨gv, 0, none⟩) cap h (fun y o e => fa1.out y o (fB y o e)) ?_ hg hnone⟩
      have c : ∀ (k : Nat) (v : Value), (#[.bool false, .int .i64 (sgnA dn s0 s1), .int .i64 (sgnB dn s0 s1), .int .i64 (sgnA dn c0 c1), .int .i64 (sgnB dn c0 c1), .slice pw nw cw, .slice pu no cu, .slice (some ⟨gv, 0, none⟩) (no + 1) cap, .bool dn] : Array Value)[k]? = some v → h.cell? F ⟨gs, k, none⟩ = some v := fun k v e => by
        rw [Hp.cell_def, Fr.ro_new hg, RoC_none, fa2, OwnC_some]
        exact e
      refine ⟨c 0 _ rfl, c 1 _ rfl, c 2 _ rfl, c 3 _ rfl, c 4 _ rfl, c 5 _ rfl, c 6 _ rfl, c 7 _ rfl, c 8 _ rfl, ?_, ?_, ?_⟩
      · exact hx.out.mono fun a u e => sub_cell (fun y o e => fa1.out y o (fB y o e)) e
      · exact f6.out.mono fun a u e => sub_cell fa1.out e
      · rw [lf]
        exact RdS.of rd
  · have kf := Hold.mk (hE.out hz)
    have q1 : (chkV s0 s1 c0 c1 ws os != 0) = true := by simpa using hz
    have q2 : (chkV s0 s1 c0 c1 ws os == 0) = false := by simpa using hz
    clear hz hE hK hV
    generalize chkV s0 s1 c0 c1 ws os = e at *
    (refine DCall.inlP (l := _) Try.func63 Try.ntmps63 rfl rfl (by simp only [seval, List.length_cons, List.length_nil]) (by simp only [seval, List.length_cons, List.length_nil]) ?_; simp only [Try.results63, List.map_cons, List.map_nil])
    repeat' (first | (with_reducible refine at_seq (by with_unfolding_all exact rfl) ?_) | ((with_reducible first | refine at_plain (by with_unfolding_all exact rfl) ?_ | refine at_draw (by with_unfolding_all exact rfl) ?_ | refine at_cond (by with_unfolding_all exact rfl) ?_ | refine at_exit (by with_unfolding_all exact rfl) ?_ | refine at_ret (by with_unfolding_all exact rfl) ?_ | refine at_skip (by with_unfolding_all exact rfl) ?_ | refine at_label (by with_unfolding_all exact rfl) ?_) <;> try simp -implicitDefEqProofs (maxSteps := 1000000) only [go_sem, seval, *]) | (with_reducible first | refine at_block (by with_unfolding_all exact rfl) ?_ | refine at_loop (by with_unfolding_all exact rfl) ?_) | ((first | ((with_reducible refine NewK.intro fun g hg hn => ?_) <;> try simp only [own_none_iff] at hn) | ((with_reducible first | refine GuardB.split (fun hc => ?_) (fun hc => ?_) | refine CondK.split (fun hc => ?_) (fun hc => ?_) | refine PickK.split (fun hc => ?_) (fun hc => ?_) | refine GuardD.split (fun hc => ?_) (fun hc => ?_)) <;> (have hc2 := hc; try simp only [beq_eq_false_iff_ne, beq_iff_eq, ne_eq, bne_iff_ne, bne_eq_false_iff_eq, decide_eq_true_eq, decide_eq_false_iff_not, Bool.not_true, Bool.not_false, Int.not_le, Int.not_lt] at hc2)) | (with_reducible first | refine dop_buildSlice ?_ | refine dop_build ?_) | ((with_reducible refine Cr.call (f := 17) (cC.out _ (hx.out.mono fun a u e => sub_cell (sub_setN (by assumption)) e) (hy.out.mono fun a u e => sub_cell (sub_setN (by assumption)) e)) ?_)) | (with_reducible refine CallV.of (f := 17) (cC.out _ (hx.out.mono fun a u e => sub_cell (sub_setN (by assumption)) e) (hy.out.mono fun a u e => sub_cell (sub_setN (by assumption)) e)) ni17 ?_) | ((with_reducible refine DDraw.told (id := 9) [4] [.tmp 7] mo ?_ ?_); kernel_rfl) | (with_reducible first | refine stp_build ?_ | refine stp_buildSlice ?_ | refine stp_store ?_ | refine stp_ns ?_) | (with_reducible refine NsB.intro (fun h' ho K' hk => by simp -implicitDefEqProofs (maxSteps := 1000000) only [go_sem, seval, *] <;> exact hk) ?_) | (with_reducible refine WrB.intro _ (by simp -implicitDefEqProofs (maxSteps := 1000000) only [go_sem, seval, *]) (fun h' ho K' hk => by simp -implicitDefEqProofs (maxSteps := 1000000) only [go_sem, seval, *]; exact hk) (fun h' ho K' hk => by simp -implicitDefEqProofs (maxSteps := 1000000) only [go_sem, seval, *] at hk; exact hk) (fun h' ho hk => by simp -implicitDefEqProofs (maxSteps := 1000000) only [go_sem, seval, *] at hk <;> with_unfolding_all exact False.elim hk) ?_) | (with_reducible refine WrB.intro _ (by simp -implicitDefEqProofs (maxSteps := 1000000) only [go_sem, seval, *]) (fun h' ho K' hk => by simp -implicitDefEqProofs (maxSteps := 1000000) only [go_sem, seval, *]; exact hk) ?_) | ((with_reducible refine DDraw.auto mo ?_ ?_); kernel_rfl)) <;> simp -implicitDefEqProofs (maxSteps := 1000000) only [go_sem, seval, *]) | (with_reducible refine bi_same ?_))
    refine ⟨h, ?_, kf.out⟩
    intro y o e
    have := own_ne e
    simp -implicitDefEqProofs (maxSteps := 1000000) only [go_sem, seval, *]

end Go.Proofs.Ytlbpfmnobapidaa
