/-
  Walks. Conditions: none.
-/
import Derived.Test.YtlbpfmnobapidaaD9
set_option linter.unusedVariables false
set_option linter.unusedSimpArgs false
namespace Go.Proofs.Ytlbpfmnobapidaa
open Go.RowKit Go.SL
set_option maxHeartbeats 1000000
set_option maxRecDepth 1000000
attribute [local go_sem] fl_getD fl_get fl_set lk_def st_def gL_nil gL_zero gL_succ sL_nil_zero sL_nil_succ sL_zero sL_succ Option.getD_none FgK_app onlyL_nil onlyL_none onlyL_some setO_some toB_bool toB_undef yl_def
attribute [local go_sem high] GuardK_yl GuardL_yl
attribute [local go_sem] i64w
attribute [local go_sem] add_none
def allN (os : List Ord) : Nat := fN os os.length
theorem allN_bd {nw : Nat} {os : List Ord} (h : OrdsOk nw os) : 1 ≤ allN os ∧ allN os ≤ 400000 ∧ allV os = (allN os : Int) := by
  have e := fN_fst h os.length (Nat.le_refl _)
  have b := fstV_bd h os.length (Nat.le_refl _)
  have l := h.len
  unfold allN allV
  omega
theorem allN_ok (ro : Addr → Option Value) (gs : Nat) (s0 s1 c0 c1 : Int) (pw : Option Addr) (nw cw : Nat) (po : Option Addr) (no co : Nat) (pf : Option Addr) (cf : Nat) (dn : Bool) (ws : List (Int × Int)) (os : List Ord) (hS : ShopR ro gs s0 s1 c0 c1 pw nw cw po no co pf cf dn ws os) (hV : Hold (ShopB s0 s1 c0 c1 nw no ws os)) : Cr Try.prog 64 #[.pointer (some ⟨gs, 0, none⟩)] ro (.int .i64 (allN os)) := by
  have := all_ok ro gs s0 s1 c0 c1 pw nw cw po no co pf cf dn ws os hS hV
  rwa [(allN_bd hV.out.ords.1).2.2] at this
theorem reach1_ok (ro : Addr → Option Value) (b2 b3 : Nat) (gs : Nat) (s0 s1 c0 c1 : Int) (pw : Option Addr) (nw cw : Nat) (po : Option Addr) (no co : Nat) (pf : Option Addr) (cf : Nat) (dn : Bool) (ws : List (Int × Int)) (os : List Ord) (fr i : Nat) (hS : ShopR ro gs s0 s1 c0 c1 pw nw cw po no co pf cf dn ws os) (hV : Hold (ShopB s0 s1 c0 c1 nw no ws os)) (h1 : ro ⟨b2, 0, none⟩ = some (.pointer (some ⟨gs, 0, none⟩))) (h2 : ro ⟨b3, 0, none⟩ = some (.int .i64 fr)) (hb : fr + i + 1 ≤ 1000000) :
    Cr Try.prog 95 #[.int .i64 i, .pointer (some ⟨b2, 0, none⟩), .pointer (some ⟨b3, 0, none⟩)] ro (.bool (!canV s0 s1 c0 c1 ws os fr ((fr + i + 1 : Nat) : Int))) := by
  have w1 : IntKind.i64.wrap ((fr : Int) + (i : Int)) = ((fr + i : Nat) : Int) := by rw [IntWalk.i64_in _ (by omega)]; push_cast; rfl
  have w2 : IntKind.i64.wrap (((fr + i : Nat) : Int) + 1) = ((fr + i + 1 : Nat) : Int) := by rw [IntWalk.i64_in _ (by omega)]; push_cast; rfl
  have hc : Hold (∀ ro, ShopR ro gs s0 s1 c0 c1 pw nw cw po no co pf cf dn ws os → Cr Try.prog 66 #[.pointer (some ⟨gs, 0, none⟩), .int .i64 fr, .int .i64 ((fr + i + 1 : Nat) : Int)] ro (.bool (canV s0 s1 c0 c1 ws os fr ((fr + i + 1 : Nat) : Int)))) := ⟨fun ro h => can_ok ro gs s0 s1 c0 c1 pw nw cw po no co pf cf dn ws os fr _ h hV ⟨by omega⟩⟩
  replace hS := Hold.mk hS
  generalize canV s0 s1 c0 c1 ws os fr ((fr + i + 1 : Nat) : Int) = c at *
  clear hb
  (refine Cr.ofP (l := _) Try.func95 Try.ntmps95 rfl rfl (by simp only [seval, List.length_cons, List.length_nil]) (by simp only [seval, List.length_cons, List.length_nil]) (fun F hF => ?_); simp only [Try.results95, List.map_cons, List.map_nil])
  subst hF
  repeat' (first | (with_reducible refine at_seq (by with_unfolding_all exact rfl) ?_) | ((with_reducible first | refine at_plain (by with_unfolding_all exact rfl) ?_ | refine at_cond (by with_unfolding_all exact rfl) ?_ | refine at_exit (by with_unfolding_all exact rfl) ?_ | refine at_ret (by with_unfolding_all exact rfl) ?_ | refine at_skip (by with_unfolding_all exact rfl) ?_ | refine at_label (by with_unfolding_all exact rfl) ?_) <;> try simp -implicitDefEqProofs (maxSteps := 1000000) only [go_sem, seval, *]) | (with_reducible first | refine at_block (by with_unfolding_all exact rfl) ?_ | refine at_loop (by with_unfolding_all exact rfl) ?_) | ((first | ((with_reducible refine NewK.intro fun g hg hn => ?_) <;> try simp only [own_none_iff] at hn) | ((with_reducible first | refine GuardB.split (fun hc => ?_) (fun hc => ?_) | refine CondK.split (fun hc => ?_) (fun hc => ?_) | refine PickK.split (fun hc => ?_) (fun hc => ?_) | refine GuardD.split (fun hc => ?_) (fun hc => ?_)) <;> (have hc2 := hc; try simp only [beq_eq_false_iff_ne, beq_iff_eq, ne_eq, bne_iff_ne, bne_eq_false_iff_eq, decide_eq_true_eq, decide_eq_false_iff_not, Bool.not_true, Bool.not_false, Int.not_le, Int.not_lt] at hc2)) | (with_reducible first | refine dop_buildSlice ?_ | refine dop_build ?_) | ((with_reducible refine Cr.call (f := 66) (hc.out _ (hS.out.mono (fun a u e => Hp.cell_ro e))) ?_)) | (with_reducible refine CallV.of (f := 66) (hc.out _ (hS.out.mono (fun a u e => Hp.cell_ro e))) ni66 ?_)) <;> simp -implicitDefEqProofs (maxSteps := 1000000) only [go_sem, seval, *]))
/-- How far one setting can go. -/
def reachV (s0 s1 c0 c1 : Int) (ws : List (Int × Int)) (os : List Ord) (fr : Nat) : Nat := fr + firstP (fun i => !canV s0 s1 c0 c1 ws os fr ((fr + i + 1 : Nat) : Int)) (allN os - fr)
theorem ent_reach1 : entB Try.prog 95 = true := by unfold entB; rw [Try.func95]; rfl
theorem can_anti {s0 s1 c0 c1 : Int} {nw no : Nat} {ws : List (Int × Int)} {os : List Ord} (hV : ShopB s0 s1 c0 c1 nw no ws os) (fr : Nat) : ∀ i j, i ≤ j → j < allN os - fr → (!canV s0 s1 c0 c1 ws os fr ((fr + i + 1 : Nat) : Int)) = true → (!canV s0 s1 c0 c1 ws os fr ((fr + j + 1 : Nat) : Int)) = true := by
  intro i j h1 h2 h3
  cases h4 : canV s0 s1 c0 c1 ws os fr ((fr + j + 1 : Nat) : Int) with
  | false => rfl
  | true =>
    have := can_sub hV.ords.1 hV.wears (fr := fr) (fr' := fr) (to' := fr + i + 1) (to := fr + j + 1) (Nat.le_refl _) (by omega) (by omega) (by unfold allN at h2; omega) h4
    rw [this] at h3
    cases h3
theorem reachS_ok (ro : Addr → Option Value) (b2 b3 : Nat) (gs : Nat) (s0 s1 c0 c1 : Int) (pw : Option Addr) (nw cw : Nat) (po : Option Addr) (no co : Nat) (pf : Option Addr) (cf : Nat) (dn : Bool) (ws : List (Int × Int)) (os : List Ord) (fr : Nat) (hS : ShopR ro gs s0 s1 c0 c1 pw nw cw po no co pf cf dn ws os) (hV : Hold (ShopB s0 s1 c0 c1 nw no ws os)) (h1 : ro ⟨b2, 0, none⟩ = some (.pointer (some ⟨gs, 0, none⟩))) (h2 : ro ⟨b3, 0, none⟩ = some (.int .i64 fr)) :
    Cr Try.prog 82 #[.int .i64 ((allN os - fr : Nat) : Int), .func (.func 95) #[] #[.pointer (some ⟨b2, 0, none⟩), .pointer (some ⟨b3, 0, none⟩)]] ro (.int .i64 (firstP (fun i => !canV s0 s1 c0 c1 ws os fr ((fr + i + 1 : Nat) : Int)) (allN os - fr))) := by
  have ab := allN_bd hV.out.ords.1
  exact search_ok ro (allN os - fr) 95 #[.pointer (some ⟨b2, 0, none⟩), .pointer (some ⟨b3, 0, none⟩)] (fun i => !canV s0 s1 c0 c1 ws os fr ((fr + i + 1 : Nat) : Int)) ⟨by omega⟩ ent_reach1 ⟨can_anti hV.out fr⟩ ⟨fun x hx => reach1_ok ro b2 b3 gs s0 s1 c0 c1 pw nw cw po no co pf cf dn ws os fr x hS hV h1 h2 (by omega)⟩
theorem reach_ok (ro : Addr → Option Value) (gs : Nat) (s0 s1 c0 c1 : Int) (pw : Option Addr) (nw cw : Nat) (po : Option Addr) (no co : Nat) (pf : Option Addr) (cf : Nat) (dn : Bool) (ws : List (Int × Int)) (os : List Ord) (fr : Nat) (hS : ShopR ro gs s0 s1 c0 c1 pw nw cw po no co pf cf dn ws os) (hV : Hold (ShopB s0 s1 c0 c1 nw no ws os)) (hb : fr ≤ allN os) :
    Cr Try.prog 71 #[.pointer (some ⟨gs, 0, none⟩), .int .i64 fr] ro (.int .i64 (reachV s0 s1 c0 c1 ws os fr)) := by
  have ab := allN_bd hV.out.ords.1
  have f1 := (firstP_spec (fun i => !canV s0 s1 c0 c1 ws os fr ((fr + i + 1 : Nat) : Int)) (allN os - fr)).1
  have w1 : IntKind.i64.wrap ((allN os : Int) - (fr : Int)) = ((allN os - fr : Nat) : Int) := by rw [IntWalk.i64_in _ (by omega)]; omega
  have hs : Hold (∀ ro b2 b3, ShopR ro gs s0 s1 c0 c1 pw nw cw po no co pf cf dn ws os → ro ⟨b2, 0, none⟩ = some (.pointer (some ⟨gs, 0, none⟩)) → ro ⟨b3, 0, none⟩ = some (.int .i64 fr) → Cr Try.prog 82 #[.int .i64 ((allN os - fr : Nat) : Int), .func (.func 95) #[] #[.pointer (some ⟨b2, 0, none⟩), .pointer (some ⟨b3, 0, none⟩)]] ro (.int .i64 (firstP (fun i => !canV s0 s1 c0 c1 ws os fr ((fr + i + 1 : Nat) : Int)) (allN os - fr)))) := ⟨fun ro b2 b3 h h1 h2 => reachS_ok ro b2 b3 gs s0 s1 c0 c1 pw nw cw po no co pf cf dn ws os fr h hV h1 h2⟩
  have ha : Hold (∀ ro, ShopR ro gs s0 s1 c0 c1 pw nw cw po no co pf cf dn ws os → Cr Try.prog 64 #[.pointer (some ⟨gs, 0, none⟩)] ro (.int .i64 (allN os))) := ⟨fun ro h => allN_ok ro gs s0 s1 c0 c1 pw nw cw po no co pf cf dn ws os h hV⟩
  unfold reachV
  generalize firstP (fun i => !canV s0 s1 c0 c1 ws os fr ((fr + i + 1 : Nat) : Int)) (allN os - fr) = v at *
  have w2 : IntKind.i64.wrap ((fr : Int) + (v : Int)) = ((fr + v : Nat) : Int) := by rw [IntWalk.i64_in _ (by omega)]; push_cast; rfl
  generalize allN os - fr = d at *
  generalize allN os = a at *
  replace hS := Hold.mk hS
  clear ab f1 hb
  (refine Cr.ofP (l := _) Try.func71 Try.ntmps71 rfl rfl (by simp only [seval, List.length_cons, List.length_nil]) (by simp only [seval, List.length_cons, List.length_nil]) (fun F hF => ?_); simp only [Try.results71, List.map_cons, List.map_nil])
  subst hF
  repeat' (first | (with_reducible refine at_seq (by with_unfolding_all exact rfl) ?_) | ((with_reducible first | refine at_plain (by with_unfolding_all exact rfl) ?_ | refine at_draw (by with_unfolding_all exact rfl) ?_ | refine at_cond (by with_unfolding_all exact rfl) ?_ | refine at_exit (by with_unfolding_all exact rfl) ?_ | refine at_ret (by with_unfolding_all exact rfl) ?_ | refine at_skip (by with_unfolding_all exact rfl) ?_ | refine at_label (by with_unfolding_all exact rfl) ?_) <;> try simp -implicitDefEqProofs (maxSteps := 1000000) only [go_sem, seval, *]) | (with_reducible first | refine at_block (by with_unfolding_all exact rfl) ?_ | refine at_loop (by with_unfolding_all exact rfl) ?_) | ((first | ((with_reducible refine NewK.intro fun g hg hn => ?_) <;> try simp only [own_none_iff] at hn) | ((with_reducible first | refine GuardB.split (fun hc => ?_) (fun hc => ?_) | refine CondK.split (fun hc => ?_) (fun hc => ?_) | refine PickK.split (fun hc => ?_) (fun hc => ?_) | refine GuardD.split (fun hc => ?_) (fun hc => ?_)) <;> (have hc2 := hc; try simp only [beq_eq_false_iff_ne, beq_iff_eq, ne_eq, bne_iff_ne, bne_eq_false_iff_eq, decide_eq_true_eq, decide_eq_false_iff_not, Bool.not_true, Bool.not_false, Int.not_le, Int.not_lt] at hc2)) | (with_reducible first | refine dop_buildSlice ?_ | refine dop_build ?_) | ((with_reducible refine Cr.call (f := 64) (ha.out _ (hS.out.mono (fun a u e => Hp.cell_ro e))) ?_)) | (with_reducible refine CallV.of (f := 64) (ha.out _ (hS.out.mono (fun a u e => Hp.cell_ro e))) ni64 ?_) | ((with_reducible refine Cr.call (f := 82) (hs.out _ _ _ (hS.out.mono (fun a u e => Hp.cell_ro e)) (by simp -implicitDefEqProofs (maxSteps := 1000000) only [go_sem, seval, *]) (by simp -implicitDefEqProofs (maxSteps := 1000000) only [go_sem, seval, *])) ?_)) | (with_reducible refine CallV.of (f := 82) (hs.out _ _ _ (hS.out.mono (fun a u e => Hp.cell_ro e)) (by simp -implicitDefEqProofs (maxSteps := 1000000) only [go_sem, seval, *]) (by simp -implicitDefEqProofs (maxSteps := 1000000) only [go_sem, seval, *])) ni82 ?_) | (with_reducible first | refine stp_build ?_ | refine stp_buildSlice ?_ | refine stp_store ?_ | refine stp_ns ?_) | (with_reducible refine NsB.intro (fun h' ho K' hk => by simp -implicitDefEqProofs (maxSteps := 1000000) only [go_sem, seval, *] <;> exact hk) ?_) | (with_reducible refine WrB.intro _ (by simp -implicitDefEqProofs (maxSteps := 1000000) only [go_sem, seval, *]) (fun h' ho K' hk => by simp -implicitDefEqProofs (maxSteps := 1000000) only [go_sem, seval, *]; exact hk) (fun h' ho K' hk => by simp -implicitDefEqProofs (maxSteps := 1000000) only [go_sem, seval, *] at hk; exact hk) (fun h' ho hk => by simp -implicitDefEqProofs (maxSteps := 1000000) only [go_sem, seval, *] at hk <;> with_unfolding_all exact False.elim hk) ?_) | (with_reducible refine WrB.intro _ (by simp -implicitDefEqProofs (maxSteps := 1000000) only [go_sem, seval, *]) (fun h' ho K' hk => by simp -implicitDefEqProofs (maxSteps := 1000000) only [go_sem, seval, *]; exact hk) ?_) | ((with_reducible refine DDraw.auto mo ?_ ?_); kernel_rfl)) <;> simp -implicitDefEqProofs (maxSteps := 1000000) only [go_sem, seval, *]) | (with_reducible refine bi_same ?_))

end Go.Proofs.Ytlbpfmnobapidaa
