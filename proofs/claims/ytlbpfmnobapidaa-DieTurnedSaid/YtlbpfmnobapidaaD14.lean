/-
  Walks. Conditions: none.
-/
import Derived.Test.YtlbpfmnobapidaaD13
set_option linter.unusedVariables false
set_option linter.unusedSimpArgs false
namespace Go.Proofs.Ytlbpfmnobapidaa
open Go.RowKit Go.SL
set_option maxHeartbeats 1000000
set_option maxRecDepth 1000000
attribute [local go_sem] fl_getD fl_get fl_set lk_def st_def gL_nil gL_zero gL_succ sL_nil_zero sL_nil_succ sL_zero sL_succ Option.getD_none FgK_app onlyL_nil onlyL_none onlyL_some setO_some toB_bool toB_undef yl_def
attribute [local go_sem high] GuardK_yl GuardL_yl
attribute [local go_sem] initL_one initL_cons lastL_one lastL_cons LastK_app fin_round Fr.inr_w0 Fr.inr_ro Fr.inr_M cell_inr LoopO_some YieldK_some RoundQ_normal RoundQ_ret RoundQ_exit EndR_none EndR_some BegK_app BegR_some OutR_none OutR_ret OutR_exit LeftR_some LeftK_app
attribute [local go_sem] i64w
attribute [local go_sem] add_none
theorem reachV_bd {s0 s1 c0 c1 : Int} {ws : List (Int × Int)} {os : List Ord} {fr : Nat} (h : fr ≤ allN os) : fr ≤ reachV s0 s1 c0 c1 ws os fr ∧ reachV s0 s1 c0 c1 ws os fr ≤ allN os := by
  unfold reachV
  have := (firstP_spec (fun i => !canV s0 s1 c0 c1 ws os fr ((fr + i + 1 : Nat) : Int)) (allN os - fr)).1
  omega
def ISt (gs L A : Nat) (I : Nat → Hp → Prop) (k' : Nat) (a : Act) (h : Hp) : Prop :=
  ∃ (fr : Nat) (x : Nat → Value), Hold (A - fr = k' ∧ fr ≤ A) ∧ Hold (I fr h) ∧ a = ⟨fl 24 x [[some (.pointer (some ⟨gs, 0, none⟩)), some (.func (.yield L) #[] #[]), none, none, some (.int .i64 fr)]], []⟩
set_option maxHeartbeats 8000000 in
theorem steps_D (F : Fr) (h : Hp) (K : Value → Hp → Prop) (gs : Nat) (s0 s1 c0 c1 : Int) (pw : Option Addr) (nw cw : Nat) (po : Option Addr) (no co : Nat) (pf : Option Addr) (cf : Nat) (dn : Bool) (ws : List (Int × Int)) (os : List Ord) (L : Nat) (S : Hp) (I J : Nat → Hp → Prop) (E : Hp → Prop)
    (hV : Hold (ShopB s0 s1 c0 c1 nw no ws os)) (hS : Hold (ShopR (S.cell? F) gs s0 s1 c0 c1 pw nw cw po no co pf cf dn ws os))
    (hI : Hold (∀ fr h, I fr h → (∀ g o, S.own g = some o → h.own g = some o) ∧ ∃ r, h.own L = some (.loop r) ∧ r.params.size = 2))
    (hR : Hold (∀ fr h (K : Value → Hp → Prop), fr < allN os → I fr h → (∀ h', J fr h' → K (.bool true) h') → (∀ h', E h' → K (.bool false) h') → ∀ r, h.own L = some (.loop r) →
      DRound Try.prog F L r.fn ((r.params.zip #[.int .i64 fr, .int .i64 (reachV s0 s1 c0 c1 ws os fr)]).foldl (fun tmps (t, a) => tmps.setIfInBounds t a) r.tmps) r.assign r.body h K))
    (hN : Hold (∀ fr h, fr < allN os → fr < reachV s0 s1 c0 c1 ws os fr → J fr h → I (reachV s0 s1 c0 c1 ws os fr) h))
    (h0 : I 0 h) (hK : Hold (∀ h', I (allN os) h' → K (.tuple #[]) h')) (hQ : Hold (∀ fr h', fr < allN os → reachV s0 s1 c0 c1 ws os fr = fr → J fr h' → K (.tuple #[]) h')) (hE : Hold (∀ h', E h' → K (.tuple #[]) h')) :
    DCall Try.prog F 72 #[.pointer (some ⟨gs, 0, none⟩), .func (.yield L) #[] #[]] h K := by
  (refine DCall.inlP (l := _) Try.func72 Try.ntmps72 rfl rfl (by simp only [seval, List.length_cons, List.length_nil]) (by simp only [seval, List.length_cons, List.length_nil]) ?_; simp only [Try.results72, List.map_cons, List.map_nil])
  repeat' (first | (with_reducible refine at_seq (by with_unfolding_all exact rfl) ?_) | ((with_reducible first | refine at_plain (by with_unfolding_all exact rfl) ?_ | refine at_cond (by with_unfolding_all exact rfl) ?_ | refine at_exit (by with_unfolding_all exact rfl) ?_ | refine at_ret (by with_unfolding_all exact rfl) ?_ | refine at_skip (by with_unfolding_all exact rfl) ?_ | refine at_label (by with_unfolding_all exact rfl) ?_) <;> try simp -implicitDefEqProofs (maxSteps := 1000000) only [go_sem, seval, *]) | (with_reducible first | refine at_block (by with_unfolding_all exact rfl) ?_ | refine at_loop (by with_unfolding_all exact rfl) ?_) | ((first | ((with_reducible refine NewK.intro fun g hg hn => ?_) <;> try simp only [own_none_iff] at hn) | ((with_reducible first | refine GuardB.split (fun hc => ?_) (fun hc => ?_) | refine CondK.split (fun hc => ?_) (fun hc => ?_) | refine PickK.split (fun hc => ?_) (fun hc => ?_) | refine GuardD.split (fun hc => ?_) (fun hc => ?_)) <;> (have hc2 := hc; try simp only [beq_eq_false_iff_ne, beq_iff_eq, ne_eq, bne_iff_ne, bne_eq_false_iff_eq, decide_eq_true_eq, decide_eq_false_iff_not, Bool.not_true, Bool.not_false, Int.not_le, Int.not_lt] at hc2)) | (with_reducible first | refine dop_buildSlice ?_ | refine dop_build ?_)) <;> simp -implicitDefEqProofs (maxSteps := 1000000) only [go_sem, seval, *]))
  refine DLoop.indW (ISt gs L (allN os) I) (allN os) ⟨0, _, ⟨by omega, by omega⟩, ⟨h0⟩, fl_re (by kernel_rfl)⟩ ?_
  clear h0
  (rintro k' a h ⟨fr, x, fa0, fa1, rfl⟩)
  have hij := hI.out fr h fa1.out
  have sh := Hold.mk (hS.out.mono fun a u e => sub_cell hij.1 e)
  have hj := fa0.out
  have ha := fun ro h => allN_ok ro gs s0 s1 c0 c1 pw nw cw po no co pf cf dn ws os h hV
  by_cases hlt : fr < allN os
  · have d1 : ((fr : Int) < (allN os : Int)) = True := by simp only [eq_iff_iff, iff_true]; omega
    obtain ⟨rr, hr1, hr2⟩ := hij.2
    have rb := reachV_bd (s0 := s0) (s1 := s1) (c0 := c0) (c1 := c1) (ws := ws) (os := os) (fr := fr) (by omega)
    have hr := fun ro h => reach_ok ro gs s0 s1 c0 c1 pw nw cw po no co pf cf dn ws os fr h hV (by omega)
    have hR' := fun K => hR.out fr h K hlt fa1.out
    have hN' := fun h => hN.out fr h hlt
    have hQ' := fun h => hQ.out fr h hlt
    have rb2 := rb
    generalize reachV s0 s1 c0 c1 ws os fr = to at *
    replace ha := Hold.mk ha
    replace hr := Hold.mk hr
    replace hR' := Hold.mk hR'
    replace hN' := Hold.mk hN'
    replace hQ' := Hold.mk hQ'
    replace hj := Hold.mk hj
    replace hlt := Hold.mk hlt
    by_cases hs : to = fr
    · have d2 : ((to : Int) == (fr : Int)) = true := by simp; omega
      replace hs := Hold.mk hs
      clear rb rb2 fa0 hij
      repeat' (first | (with_reducible refine at_seq (by with_unfolding_all exact rfl) ?_) | ((with_reducible first | refine at_plain (by with_unfolding_all exact rfl) ?_ | refine at_cond (by with_unfolding_all exact rfl) ?_ | refine at_exit (by with_unfolding_all exact rfl) ?_ | refine at_ret (by with_unfolding_all exact rfl) ?_ | refine at_skip (by with_unfolding_all exact rfl) ?_ | refine at_label (by with_unfolding_all exact rfl) ?_) <;> try simp -implicitDefEqProofs (maxSteps := 1000000) only [go_sem, seval, *]) | (with_reducible first | refine at_block (by with_unfolding_all exact rfl) ?_ | refine at_loop (by with_unfolding_all exact rfl) ?_) | ((first | ((with_reducible refine NewK.intro fun g hg hn => ?_) <;> try simp only [own_none_iff] at hn) | ((with_reducible first | refine GuardB.split (fun hc => ?_) (fun hc => ?_) | refine CondK.split (fun hc => ?_) (fun hc => ?_) | refine PickK.split (fun hc => ?_) (fun hc => ?_) | refine GuardD.split (fun hc => ?_) (fun hc => ?_)) <;> (have hc2 := hc; try simp only [beq_eq_false_iff_ne, beq_iff_eq, ne_eq, bne_iff_ne, bne_eq_false_iff_eq, decide_eq_true_eq, decide_eq_false_iff_not, Bool.not_true, Bool.not_false, Int.not_le, Int.not_lt] at hc2)) | (with_reducible first | refine dop_buildSlice ?_ | refine dop_build ?_) | ((with_reducible refine Cr.call (f := 64) (ha.out _ sh.out) ?_)) | (with_reducible refine CallV.of (f := 64) (ha.out _ sh.out) ni64 ?_) | ((with_reducible refine Cr.call (f := 71) (hr.out _ sh.out) ?_)) | (with_reducible refine CallV.of (f := 71) (hr.out _ sh.out) ni71 ?_)) <;> simp -implicitDefEqProofs (maxSteps := 1000000) only [go_sem, seval, *]))
      refine dwp_yield ?_
      rw [hr1]
      refine ⟨by rw [hr2]; rfl, hR'.out _ (fun h' hJ => ?_) (fun h' hE' => ?_) rr hr1⟩
      · clear fa1 hr1 hr2 hR' sh
        have kf := Hold.mk (hQ'.out h' hs.out hJ)
        simp -implicitDefEqProofs (maxSteps := 1000000) only [go_sem, seval, *]
        repeat' (first | (with_reducible refine at_seq (by with_unfolding_all exact rfl) ?_) | ((with_reducible first | refine at_plain (by with_unfolding_all exact rfl) ?_ | refine at_cond (by with_unfolding_all exact rfl) ?_ | refine at_exit (by with_unfolding_all exact rfl) ?_ | refine at_ret (by with_unfolding_all exact rfl) ?_ | refine at_skip (by with_unfolding_all exact rfl) ?_ | refine at_label (by with_unfolding_all exact rfl) ?_) <;> try simp -implicitDefEqProofs (maxSteps := 1000000) only [go_sem, seval, *]) | (with_reducible first | refine at_block (by with_unfolding_all exact rfl) ?_ | refine at_loop (by with_unfolding_all exact rfl) ?_) | ((first | ((with_reducible refine NewK.intro fun g hg hn => ?_) <;> try simp only [own_none_iff] at hn) | ((with_reducible first | refine GuardB.split (fun hc => ?_) (fun hc => ?_) | refine CondK.split (fun hc => ?_) (fun hc => ?_) | refine PickK.split (fun hc => ?_) (fun hc => ?_) | refine GuardD.split (fun hc => ?_) (fun hc => ?_)) <;> (have hc2 := hc; try simp only [beq_eq_false_iff_ne, beq_iff_eq, ne_eq, bne_iff_ne, bne_eq_false_iff_eq, decide_eq_true_eq, decide_eq_false_iff_not, Bool.not_true, Bool.not_false, Int.not_le, Int.not_lt] at hc2)) | (with_reducible first | refine dop_buildSlice ?_ | refine dop_build ?_)) <;> simp -implicitDefEqProofs (maxSteps := 1000000) only [go_sem, seval, *]))
        exact kf.out
      · clear fa1 hr1 hr2 hR' sh
        have kf := Hold.mk (hE.out h' hE')
        simp -implicitDefEqProofs (maxSteps := 1000000) only [go_sem, seval, *]
        repeat' (first | (with_reducible refine at_seq (by with_unfolding_all exact rfl) ?_) | ((with_reducible first | refine at_plain (by with_unfolding_all exact rfl) ?_ | refine at_cond (by with_unfolding_all exact rfl) ?_ | refine at_exit (by with_unfolding_all exact rfl) ?_ | refine at_ret (by with_unfolding_all exact rfl) ?_ | refine at_skip (by with_unfolding_all exact rfl) ?_ | refine at_label (by with_unfolding_all exact rfl) ?_) <;> try simp -implicitDefEqProofs (maxSteps := 1000000) only [go_sem, seval, *]) | (with_reducible first | refine at_block (by with_unfolding_all exact rfl) ?_ | refine at_loop (by with_unfolding_all exact rfl) ?_) | ((first | ((with_reducible refine NewK.intro fun g hg hn => ?_) <;> try simp only [own_none_iff] at hn) | ((with_reducible first | refine GuardB.split (fun hc => ?_) (fun hc => ?_) | refine CondK.split (fun hc => ?_) (fun hc => ?_) | refine PickK.split (fun hc => ?_) (fun hc => ?_) | refine GuardD.split (fun hc => ?_) (fun hc => ?_)) <;> (have hc2 := hc; try simp only [beq_eq_false_iff_ne, beq_iff_eq, ne_eq, bne_iff_ne, bne_eq_false_iff_eq, decide_eq_true_eq, decide_eq_false_iff_not, Bool.not_true, Bool.not_false, Int.not_le, Int.not_lt] at hc2)) | (with_reducible first | refine dop_buildSlice ?_ | refine dop_build ?_)) <;> simp -implicitDefEqProofs (maxSteps := 1000000) only [go_sem, seval, *]))
        exact kf.out
    · have d2 : ((to : Int) == (fr : Int)) = false := by simp; omega
      have rb3 := Hold.mk rb
      replace hs := Hold.mk hs
      clear rb rb2 fa0 hij
      repeat' (first | (with_reducible refine at_seq (by with_unfolding_all exact rfl) ?_) | ((with_reducible first | refine at_plain (by with_unfolding_all exact rfl) ?_ | refine at_cond (by with_unfolding_all exact rfl) ?_ | refine at_exit (by with_unfolding_all exact rfl) ?_ | refine at_ret (by with_unfolding_all exact rfl) ?_ | refine at_skip (by with_unfolding_all exact rfl) ?_ | refine at_label (by with_unfolding_all exact rfl) ?_) <;> try simp -implicitDefEqProofs (maxSteps := 1000000) only [go_sem, seval, *]) | (with_reducible first | refine at_block (by with_unfolding_all exact rfl) ?_ | refine at_loop (by with_unfolding_all exact rfl) ?_) | ((first | ((with_reducible refine NewK.intro fun g hg hn => ?_) <;> try simp only [own_none_iff] at hn) | ((with_reducible first | refine GuardB.split (fun hc => ?_) (fun hc => ?_) | refine CondK.split (fun hc => ?_) (fun hc => ?_) | refine PickK.split (fun hc => ?_) (fun hc => ?_) | refine GuardD.split (fun hc => ?_) (fun hc => ?_)) <;> (have hc2 := hc; try simp only [beq_eq_false_iff_ne, beq_iff_eq, ne_eq, bne_iff_ne, bne_eq_false_iff_eq, decide_eq_true_eq, decide_eq_false_iff_not, Bool.not_true, Bool.not_false, Int.not_le, Int.not_lt] at hc2)) | (with_reducible first | refine dop_buildSlice ?_ | refine dop_build ?_) | ((with_reducible refine Cr.call (f := 64) (ha.out _ sh.out) ?_)) | (with_reducible refine CallV.of (f := 64) (ha.out _ sh.out) ni64 ?_) | ((with_reducible refine Cr.call (f := 71) (hr.out _ sh.out) ?_)) | (with_reducible refine CallV.of (f := 71) (hr.out _ sh.out) ni71 ?_)) <;> simp -implicitDefEqProofs (maxSteps := 1000000) only [go_sem, seval, *]))
      refine dwp_yield ?_
      rw [hr1]
      refine ⟨by rw [hr2]; rfl, hR'.out _ (fun h' hJ => ?_) (fun h' hE' => ?_) rr hr1⟩
      · clear fa1 hr1 hr2 hR' sh
        replace hJ := Hold.mk hJ
        simp -implicitDefEqProofs (maxSteps := 1000000) only [go_sem, seval, *]
        repeat' (first | (with_reducible refine at_seq (by with_unfolding_all exact rfl) ?_) | ((with_reducible first | refine at_plain (by with_unfolding_all exact rfl) ?_ | refine at_cond (by with_unfolding_all exact rfl) ?_ | refine at_exit (by with_unfolding_all exact rfl) ?_ | refine at_ret (by with_unfolding_all exact rfl) ?_ | refine at_skip (by with_unfolding_all exact rfl) ?_ | refine at_label (by with_unfolding_all exact rfl) ?_) <;> try simp -implicitDefEqProofs (maxSteps := 1000000) only [go_sem, seval, *]) | (with_reducible first | refine at_block (by with_unfolding_all exact rfl) ?_ | refine at_loop (by with_unfolding_all exact rfl) ?_) | ((first | ((with_reducible refine NewK.intro fun g hg hn => ?_) <;> try simp only [own_none_iff] at hn) | ((with_reducible first | refine GuardB.split (fun hc => ?_) (fun hc => ?_) | refine CondK.split (fun hc => ?_) (fun hc => ?_) | refine PickK.split (fun hc => ?_) (fun hc => ?_) | refine GuardD.split (fun hc => ?_) (fun hc => ?_)) <;> (have hc2 := hc; try simp only [beq_eq_false_iff_ne, beq_iff_eq, ne_eq, bne_iff_ne, bne_eq_false_iff_eq, decide_eq_true_eq, decide_eq_false_iff_not, Bool.not_true, Bool.not_false, Int.not_le, Int.not_lt] at hc2)) | (with_reducible first | refine dop_buildSlice ?_ | refine dop_build ?_)) <;> simp -implicitDefEqProofs (maxSteps := 1000000) only [go_sem, seval, *]))
        have q1 := rb3.out
        have q2 := hs.out
        have q3 := hj.out
        have q4 := hlt.out
        exact LoopW.intro (allN os - to) h' (by omega) sub_refl ⟨to, _, ⟨by omega, by omega⟩, ⟨hN'.out h' (by omega) hJ.out⟩, fl_re (by kernel_rfl)⟩
      · clear fa1 hr1 hr2 hR' sh
        have kf := Hold.mk (hE.out h' hE')
        simp -implicitDefEqProofs (maxSteps := 1000000) only [go_sem, seval, *]
        repeat' (first | (with_reducible refine at_seq (by with_unfolding_all exact rfl) ?_) | ((with_reducible first | refine at_plain (by with_unfolding_all exact rfl) ?_ | refine at_cond (by with_unfolding_all exact rfl) ?_ | refine at_exit (by with_unfolding_all exact rfl) ?_ | refine at_ret (by with_unfolding_all exact rfl) ?_ | refine at_skip (by with_unfolding_all exact rfl) ?_ | refine at_label (by with_unfolding_all exact rfl) ?_) <;> try simp -implicitDefEqProofs (maxSteps := 1000000) only [go_sem, seval, *]) | (with_reducible first | refine at_block (by with_unfolding_all exact rfl) ?_ | refine at_loop (by with_unfolding_all exact rfl) ?_) | ((first | ((with_reducible refine NewK.intro fun g hg hn => ?_) <;> try simp only [own_none_iff] at hn) | ((with_reducible first | refine GuardB.split (fun hc => ?_) (fun hc => ?_) | refine CondK.split (fun hc => ?_) (fun hc => ?_) | refine PickK.split (fun hc => ?_) (fun hc => ?_) | refine GuardD.split (fun hc => ?_) (fun hc => ?_)) <;> (have hc2 := hc; try simp only [beq_eq_false_iff_ne, beq_iff_eq, ne_eq, bne_iff_ne, bne_eq_false_iff_eq, decide_eq_true_eq, decide_eq_false_iff_not, Bool.not_true, Bool.not_false, Int.not_le, Int.not_lt] at hc2)) | (with_reducible first | refine dop_buildSlice ?_ | refine dop_build ?_)) <;> simp -implicitDefEqProofs (maxSteps := 1000000) only [go_sem, seval, *]))
        exact kf.out
  · have d1 : ((fr : Int) < (allN os : Int)) = False := by simp only [eq_iff_iff, iff_false]; omega
    have hjn : fr = allN os := by omega
    have kf := Hold.mk (hK.out h (by rw [← hjn]; exact fa1.out))
    clear hlt hj hjn fa1 fa0 hK hR hN hQ hE
    generalize allN os = A at *
    replace ha := Hold.mk ha
    repeat' (first | (with_reducible refine at_seq (by with_unfolding_all exact rfl) ?_) | ((with_reducible first | refine at_plain (by with_unfolding_all exact rfl) ?_ | refine at_cond (by with_unfolding_all exact rfl) ?_ | refine at_exit (by with_unfolding_all exact rfl) ?_ | refine at_ret (by with_unfolding_all exact rfl) ?_ | refine at_skip (by with_unfolding_all exact rfl) ?_ | refine at_label (by with_unfolding_all exact rfl) ?_) <;> try simp -implicitDefEqProofs (maxSteps := 1000000) only [go_sem, seval, *]) | (with_reducible first | refine at_block (by with_unfolding_all exact rfl) ?_ | refine at_loop (by with_unfolding_all exact rfl) ?_) | ((first | ((with_reducible refine NewK.intro fun g hg hn => ?_) <;> try simp only [own_none_iff] at hn) | ((with_reducible first | refine GuardB.split (fun hc => ?_) (fun hc => ?_) | refine CondK.split (fun hc => ?_) (fun hc => ?_) | refine PickK.split (fun hc => ?_) (fun hc => ?_) | refine GuardD.split (fun hc => ?_) (fun hc => ?_)) <;> (have hc2 := hc; try simp only [beq_eq_false_iff_ne, beq_iff_eq, ne_eq, bne_iff_ne, bne_eq_false_iff_eq, decide_eq_true_eq, decide_eq_false_iff_not, Bool.not_true, Bool.not_false, Int.not_le, Int.not_lt] at hc2)) | (with_reducible first | refine dop_buildSlice ?_ | refine dop_build ?_) | ((with_reducible refine Cr.call (f := 64) (ha.out _ sh.out) ?_)) | (with_reducible refine CallV.of (f := 64) (ha.out _ sh.out) ni64 ?_)) <;> simp -implicitDefEqProofs (maxSteps := 1000000) only [go_sem, seval, *]))
    exact kf.out

end Go.Proofs.Ytlbpfmnobapidaa
